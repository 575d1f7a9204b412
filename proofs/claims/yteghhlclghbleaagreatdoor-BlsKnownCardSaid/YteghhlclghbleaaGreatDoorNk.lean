/- Part Nk of the proof. -/
import Derived.Test.YteghhlclghbleaaGreatDoorNj
import Derived.Test.YteghhlclghbleaaGreatDoorNh
import Derived.Test.YteghhlclghbleaaGreatDoorNi
set_option linter.unusedVariables false
set_option linter.unusedSimpArgs false
namespace Go.Sx
open Go Go.RowKit
set_option maxRecDepth 100000
theorem mont_wide {n a:Int} (h:n%2=1):montv n a (wideOf n)=a*N384%n:=by
 obtain ⟨z,hz⟩:=RR1 h
 show a*wideOf n*half2 n^384%n=_
 refine md (a*z) ?_
 have:a*(wideOf n*half2 n^384)=a*(N384+n*z):=by rw [hz]
 grind
def kMWide (f:FuncId):K:={fn:=f,ext:=false,ins:=[iM,iN,iN],outs:=[oN],pre:=fun | [n,low,w,_,_]=>mGood n low w | _=>False,sem:=fun | [n,_,_,a,b]=>[(a+b*N384)%n] | _=>[] }
def tMWide:Tree:=(.lett 5 .bit (.cmp .eql (.var 1) (.lit 0))
(.split 5
(.ret [.lit 0])
(.req 1 [.var 0,.var 1,.var 2,.var 4,.var 2]
(.lett 390 .num (.app 1 0 [.var 0,.var 1,.var 2,.var 4,.var 2])
(.req 0 [.var 0,.var 1,.var 2,.var 3,.var 390]
(.lett 438 .num (.app 0 0 [.var 0,.var 1,.var 2,.var 3,.var 390])
(.ret [.var 438])))))))
theorem law_mWide (f1 f2 f:FuncId) (e:Nat->Int) (hp:(kMWide f).pre [e 0,e 1,e 2,e 3,e 4]):tMWide.says [kMAdd f1,kMont f2] ⟨fun ys=>ys=(kMWide f).sem [e 0,e 1,e 2,e 3,e 4],[]⟩ e:=by
 have hp:mGood (e 0) (e 1) (e 2):=hp
 have hm:=hp.1
 have hw:=hp.2
 have hn3:=hm.2.1
 have hwl:=wide_lt (n:=e 0) (by omega)
 show tMWide.says _ ⟨fun ys=>ys=[(e 3+e 4*N384)%e 0],[]⟩ e
 intro a5 _
 have b5:=c_eq a5
 simp only [ev_var,ev_lit] at b5
 refine ⟨fun h=>?_,fun h=>?_⟩
 ·exact absurd (b_yes b5 h) hm.low_ne
 refine ⟨⟨hm,.inr (by show e 2<e 0;rw [hw];exact hwl.2)⟩,fun a390 _=>⟨hp,fun a438 _=>?_⟩⟩
 have v390:e 390=montv (e 0) (e 4) (e 2):=a390
 have v438:e 438=(e 3+e 390)%e 0:=a438
 show [e 438]=_
 rw [v438,v390,hw,mont_wide hm.odd,Int.add_emod_emod]
def allV (tag:Int) (t:List Int):List Int:=Sha.sha (tag::0::t)++Sha.sha (tag::1::t)
def wideV (n tag:Int) (t:List Int):Int:=(readV ((allV tag t).drop 16)+readV ((allV tag t).take 16)*N384)%n
noncomputable def kSumQ (Q:Int->List Int->Prop) (f:FuncId):K:={Sha.kSum f with pre:=fun | [x]=>∃ tag t,Q tag t/\(x=enc (tag::0::t)∨x=enc (tag::1::t)) | _=>False }
noncomputable def kWide (Q:Int->List Int->Prop) (f:FuncId):K:={fn:=f,ext:=false,ins:=[iN,.one (.int .u8),.lst (.int .u8)],outs:=[oN],pre:=fun | [n,g,t]=>(n%2=1/\3<=n/\n<2^382)/\(dec t).length<=65536/\Q g (dec t) | _=>False,sem:=fun | [n,tag,t]=>[wideV n tag (dec t)] | _=>[] }
theorem list32 {l:List Int} (h:l.length=32):(List.range 32).map (fun j=>l.getD j 0)=l:=by
 apply List.ext_getElem?
 intro i
 rw [List.getElem?_map]
 rcases Nat.lt_or_ge i 32 with hi | hi
 ·rw [List.getElem?_range hi,Option.map_some,List.getD_eq_getElem?_getD,List.getElem?_eq_getElem (by omega)];rfl
 ·rw [List.getElem?_eq_none (by simpa using hi),List.getElem?_eq_none (by omega)];rfl
theorem app32 {v x:Int} (h:(dec x).length=32) (hv:v=enc (dec 0++(List.range 32).map (fun j=>(dec x).getD j 0))):dec v=dec x:=by rw [hv,dec_enc,dec_zero,List.nil_append,list32 h]
theorem new_mgood {n:Int} (h1:n%2=1) (h2:3<=n) (h3:n<2^382):mGood n (lowOf n) (wideOf n):=new_good h1 h2 h3
def tWide:Tree:=(.lett 3 (.lst (.int .u8)) (.lapp (.lit 0) [.var 1,.lit 0])
(.lett 4 (.int .i64) (.llen (.var 3))
(.lett 5 .bit (.cmp .lss (.var 4) (.lit 2147483648))
(.lett 6 (.int .i64) (.llen (.var 2))
(.lett 7 .bit (.cmp .lss (.var 6) (.lit 2147483648))
(.nz (.var 5)
(.nz (.var 7)
(.lett 8 (.lst (.int .u8)) (.lcat (.var 3) (.var 2))
(.req 0 [.var 8]
(.lett 9 (.arr .u8 32) (.app 0 0 [.var 8])
(.lett 10 (.lst (.int .u8)) (.lapp (.lit 0) [(.elt .u8 9 0),(.elt .u8 9 1),(.elt .u8 9 2),(.elt .u8 9 3),(.elt .u8 9 4),(.elt .u8 9 5),(.elt .u8 9 6),(.elt .u8 9 7),(.elt .u8 9 8),(.elt .u8 9 9),(.elt .u8 9 10),(.elt .u8 9 11),(.elt .u8 9 12),(.elt .u8 9 13),(.elt .u8 9 14),(.elt .u8 9 15),(.elt .u8 9 16),(.elt .u8 9 17),(.elt .u8 9 18),(.elt .u8 9 19),(.elt .u8 9 20),(.elt .u8 9 21),(.elt .u8 9 22),(.elt .u8 9 23),(.elt .u8 9 24),(.elt .u8 9 25),(.elt .u8 9 26),(.elt .u8 9 27),(.elt .u8 9 28),(.elt .u8 9 29),(.elt .u8 9 30),(.elt .u8 9 31)])
(.lett 11 (.int .i64) (.llen (.lit 0))
(.lett 12 .bit (.cmp .lss (.var 11) (.lit 2147483648))
(.lett 13 (.int .i64) (.llen (.var 10))
(.lett 14 .bit (.cmp .lss (.var 13) (.lit 2147483648))
(.nz (.var 12)
(.nz (.var 14)
(.lett 15 (.lst (.int .u8)) (.lcat (.lit 0) (.var 10))
(.lett 16 (.lst (.int .u8)) (.lapp (.lit 0) [.var 1,.lit 1])
(.lett 17 (.int .i64) (.llen (.var 16))
(.lett 18 .bit (.cmp .lss (.var 17) (.lit 2147483648))
(.lett 19 (.int .i64) (.llen (.var 2))
(.lett 20 .bit (.cmp .lss (.var 19) (.lit 2147483648))
(.nz (.var 18)
(.nz (.var 20)
(.lett 21 (.lst (.int .u8)) (.lcat (.var 16) (.var 2))
(.req 0 [.var 21]
(.lett 22 (.arr .u8 32) (.app 0 0 [.var 21])
(.lett 23 (.lst (.int .u8)) (.lapp (.lit 0) [(.elt .u8 22 0),(.elt .u8 22 1),(.elt .u8 22 2),(.elt .u8 22 3),(.elt .u8 22 4),(.elt .u8 22 5),(.elt .u8 22 6),(.elt .u8 22 7),(.elt .u8 22 8),(.elt .u8 22 9),(.elt .u8 22 10),(.elt .u8 22 11),(.elt .u8 22 12),(.elt .u8 22 13),(.elt .u8 22 14),(.elt .u8 22 15),(.elt .u8 22 16),(.elt .u8 22 17),(.elt .u8 22 18),(.elt .u8 22 19),(.elt .u8 22 20),(.elt .u8 22 21),(.elt .u8 22 22),(.elt .u8 22 23),(.elt .u8 22 24),(.elt .u8 22 25),(.elt .u8 22 26),(.elt .u8 22 27),(.elt .u8 22 28),(.elt .u8 22 29),(.elt .u8 22 30),(.elt .u8 22 31)])
(.lett 24 (.int .i64) (.llen (.var 15))
(.lett 25 .bit (.cmp .lss (.var 24) (.lit 2147483648))
(.lett 26 (.int .i64) (.llen (.var 23))
(.lett 27 .bit (.cmp .lss (.var 26) (.lit 2147483648))
(.nz (.var 25)
(.nz (.var 27)
(.lett 28 (.lst (.int .u8)) (.lcat (.var 15) (.var 23))
(.lett 29 (.int .i64) (.llen (.var 28))
(.lett 30 .bit (.cmp .leq (.lit 0) (.lit 0))
(.lett 31 .bit (.cmp .leq (.lit 0) (.lit 16))
(.lett 32 .bit (.cmp .leq (.lit 16) (.var 29))
(.nz (.var 30)
(.nz (.var 31)
(.nz (.var 32)
(.lett 33 (.lst (.int .u8)) (.lsub (.var 28) (.lit 0) (.lit 16))
(.req 1 [.var 33]
(.lett 34 .num (.app 1 0 [.var 33])
(.lett 35 (.int .i64) (.app 1 1 [.var 33])
(.lett 36 (.int .i64) (.llen (.var 28))
(.lett 37 .bit (.cmp .leq (.lit 0) (.lit 16))
(.lett 38 .bit (.cmp .leq (.lit 16) (.var 36))
(.lett 39 .bit (.cmp .leq (.var 36) (.var 36))
(.nz (.var 37)
(.nz (.var 38)
(.nz (.var 39)
(.lett 40 (.lst (.int .u8)) (.lsub (.var 28) (.lit 16) (.var 36))
(.req 1 [.var 40]
(.lett 41 .num (.app 1 0 [.var 40])
(.lett 42 (.int .i64) (.app 1 1 [.var 40])
(.req 2 [.var 0]
(.lett 43 .num (.app 2 0 [.var 0])
(.lett 44 (.int .u64) (.app 2 1 [.var 0])
(.lett 45 .num (.app 2 2 [.var 0])
(.req 3 [.var 43,.var 44,.var 45,.var 41,.var 34]
(.lett 46 .num (.app 3 0 [.var 43,.var 44,.var 45,.var 41,.var 34])
(.ret [.var 46])))))))))))))))))))))))))))))))))))))))))))))))))))))))))))))))))
theorem law_wide (Q:Int->List Int->Prop) (te:TypeId) (f0 f1 f2 f3 f:FuncId) (e:Nat->Int) (hp:(kWide Q f).pre [e 0,e 1,e 2]):tWide.says [kSumQ Q f0,kWRead f1,kNew f2 te,kMWide f3] ⟨fun ys=>ys=(kWide Q f).sem [e 0,e 1,e 2],[]⟩ e:=by
 obtain ⟨hn,ht,hq⟩:(e 0%2=1/\3<=e 0/\e 0<2^382)/\(dec (e 2)).length<=65536/\Q (e 1) (dec (e 2)):=hp
 show tWide.says _ ⟨fun ys=>ys=[wideV (e 0) (e 1) (dec (e 2))],[]⟩ e
 intro a3 _ a4 _ a5 _ a6 _ a7 _
 have d3:dec (e 3)=[e 1,0]:=by rw [show e 3=enc (dec 0++[e 1,0]) from a3,dec_enc,dec_zero];rfl
 have v4:e 4=2:=by rw [show e 4=((dec (e 3)).length:Int) from a4,d3];rfl
 have v6:e 6=((dec (e 2)).length:Int):=a6
 refine ⟨lt_nz a5 (by show e 4<2147483648;omega),lt_nz a7 (by show e 6<2147483648;omega),fun a8 _=>?_⟩
 have d8:dec (e 8)=e 1::0::dec (e 2):=by rw [show e 8=enc (dec (e 3)++dec (e 2)) from a8,dec_enc,d3];rfl
 refine ⟨⟨e 1,dec (e 2),hq,.inl (by show e 8=_;rw [show e 8=enc (dec (e 3)++dec (e 2)) from a8,d3];rfl)⟩,fun a9 k9 a10 _ a11 _ a12 _ a13 _ a14 _=>?_⟩
 have l9:(dec (e 9)).length=32:=k9.2
 have d9:dec (e 9)=Sha.sha (e 1::0::dec (e 2)):=by rw [show e 9=enc (Sha.sha (dec (e 8))) from a9,dec_enc,d8]
 have d10:dec (e 10)=dec (e 9):=app32 l9 a10
 have v11:e 11=0:=by rw [show e 11=((dec 0).length:Int) from a11,dec_zero];rfl
 have v13:e 13=32:=by rw [show e 13=((dec (e 10)).length:Int) from a13,d10,l9];rfl
 refine ⟨lt_nz a12 (by show e 11<2147483648;omega),lt_nz a14 (by show e 13<2147483648;omega),fun a15 _ a16 _ a17 _ a18 _ a19 _ a20 _=>?_⟩
 have d15:dec (e 15)=dec (e 9):=by rw [show e 15=enc (dec 0++dec (e 10)) from a15,dec_enc,dec_zero,d10];rfl
 have d16:dec (e 16)=[e 1,1]:=by rw [show e 16=enc (dec 0++[e 1,1]) from a16,dec_enc,dec_zero];rfl
 have v17:e 17=2:=by rw [show e 17=((dec (e 16)).length:Int) from a17,d16];rfl
 have v19:e 19=((dec (e 2)).length:Int):=a19
 refine ⟨lt_nz a18 (by show e 17<2147483648;omega),lt_nz a20 (by show e 19<2147483648;omega),fun a21 _=>?_⟩
 have d21:dec (e 21)=e 1::1::dec (e 2):=by rw [show e 21=enc (dec (e 16)++dec (e 2)) from a21,dec_enc,d16];rfl
 refine ⟨⟨e 1,dec (e 2),hq,.inr (by show e 21=_;rw [show e 21=enc (dec (e 16)++dec (e 2)) from a21,d16];rfl)⟩,fun a22 k22 a23 _ a24 _ a25 _ a26 _ a27 _=>?_⟩
 have l22:(dec (e 22)).length=32:=k22.2
 have d22:dec (e 22)=Sha.sha (e 1::1::dec (e 2)):=by rw [show e 22=enc (Sha.sha (dec (e 21))) from a22,dec_enc,d21]
 have d23:dec (e 23)=dec (e 22):=app32 l22 a23
 have v24:e 24=32:=by rw [show e 24=((dec (e 15)).length:Int) from a24,d15,l9];rfl
 have v26:e 26=32:=by rw [show e 26=((dec (e 23)).length:Int) from a26,d23,l22];rfl
 refine ⟨lt_nz a25 (by show e 24<2147483648;omega),lt_nz a27 (by show e 26<2147483648;omega),fun a28 _ a29 _ a30 _ a31 _ a32 _=>?_⟩
 have d28:dec (e 28)=allV (e 1) (dec (e 2)):=by rw [show e 28=enc (dec (e 15)++dec (e 23)) from a28,dec_enc,d15,d23,d9,d22];rfl
 have l28:(dec (e 28)).length=64:=by rw [show e 28=enc (dec (e 15)++dec (e 23)) from a28,dec_enc,d15,d23,List.length_append,l9,l22]
 have v29:e 29=64:=by rw [show e 29=((dec (e 28)).length:Int) from a29,l28];rfl
 refine ⟨le_nz a30 (show (0:Int)<=0 by decide),le_nz a31 (show (0:Int)<=16 by decide),le_nz a32 (by show 16<=e 29;omega),fun a33 _=>⟨trivial,fun a34 _ a35 _ a36 _ a37 _ a38 _ a39 _=>?_⟩⟩
 have d33:dec (e 33)=(dec (e 28)).take 16:=by rw [show e 33=enc (((dec (e 28)).take 16).drop 0) from a33,dec_enc];rfl
 have v34:e 34=readV ((dec (e 28)).take 16):=by
  have h:e 34=((if (dec (e 33)).length<=48 then [readV (dec (e 33)),0] else [0,3]):List Int).getD 0 0:=a34
  rw [h,d33,if_pos (by rw [List.length_take,l28];decide)];rfl
 have v36:e 36=64:=by rw [show e 36=((dec (e 28)).length:Int) from a36,l28];rfl
 refine ⟨le_nz a37 (show (0:Int)<=16 by decide),le_nz a38 (by show 16<=e 36;omega),le_nz a39 (Int.le_refl _),fun a40 _=>⟨trivial,fun a41 _ a42 _=>?_⟩⟩
 have d40:dec (e 40)=(dec (e 28)).drop 16:=by
  rw [show e 40=enc (((dec (e 28)).take (e 36).toNat).drop 16) from a40,dec_enc,v36,List.take_of_length_le (by rw [l28];decide)]
 have v41:e 41=readV ((dec (e 28)).drop 16):=by
  have h:e 41=((if (dec (e 40)).length<=48 then [readV (dec (e 40)),0] else [0,3]):List Int).getD 0 0:=a41
  rw [h,d40,if_pos (by rw [List.length_drop,l28];decide)];rfl
 refine ⟨hn,fun a43 _ a44 _ a45 _=>?_⟩
 have v43:e 43=e 0:=a43
 have v44:e 44=lowOf (e 0):=a44
 have v45:e 45=wideOf (e 0):=a45
 refine ⟨by show mGood (e 43) (e 44) (e 45);rw [v43,v44,v45];exact new_mgood hn.1 hn.2.1 hn.2.2,fun a46 _=>?_⟩
 have v46:e 46=(e 41+e 34*N384)%e 43:=a46
 show [e 46]=_
 rw [v46,v43,v41,v34,d28];rfl
def primeV (s:Int):Int:=if s=0 then bP else pL s
def kLPrime (f:FuncId):K:={fn:=f,ext:=false,ins:=[iI],outs:=[.one (.int .u64),oI],pre:=fun | [s]=>isL s | _=>False,sem:=fun | [s]=>[pL s,0] | _=>[] }
def kPrime (f:FuncId):K:={fn:=f,ext:=false,ins:=[iI],outs:=[oN],pre:=fun | [s]=>isS s | _=>False,sem:=fun | [s]=>[primeV s] | _=>[] }
def tLPrime:Tree:=(.req 0 [.var 0]
(.lett 1 (.int .u64) (.app 0 0 [.var 0])
(.lett 2 (.int .u64) (.app 0 1 [.var 0])
(.lett 3 (.int .u64) (.app 0 2 [.var 0])
(.lett 4 (.int .u64) (.app 0 3 [.var 0])
(.lett 5 (.int .u64) (.app 0 4 [.var 0])
(.lett 6 .bit (.app 0 5 [.var 0])
(.lett 7 .bit (.app 0 6 [.var 0])
(.lett 8 .bit (.not (.var 7))
(.split 8
(.ret [.lit 0,.lit 2])
(.ret [.var 1,.lit 0])))))))))))
theorem law_lPrime (f1 f:FuncId) (e:Nat->Int) (hp:isL (e 0)):tLPrime.says [kLOf f1] ⟨fun ys=>ys=(kLPrime f).sem [e 0],[]⟩ e:=by
 show tLPrime.says _ ⟨fun ys=>ys=[pL (e 0),0],[]⟩ e
 refine ⟨trivial,fun a1 _ a2 _ a3 _ a4 _ a5 _ a6 _ a7 _ a8 _=>?_⟩
 have v1:e 1=(cvL (e 0)).getD 0 0:=a1
 have v7:e 7=(cvL (e 0)).getD 6 0:=a7
 have b8:=c_not a8
 simp only [ev_var] at b8
 have h7:e 7=1:=by rcases hp with h | h <;> rw [v7,h] <;> rfl
 have h1:e 1=pL (e 0):=by rcases hp with h | h <;> rw [v1,h] <;> rfl
 refine ⟨fun h=>?_,fun h=>?_⟩
 ·omega
 ·show [e 1,0]=_
  rw [h1]
def tPrime:Tree:=(.lett 1 .bit (.cmp .eql (.var 0) (.lit 0))
(.split 1
(.req 0 []
(.lett 2 .num (.app 0 0 [])
(.ret [.var 2])))
(.req 1 [.var 0]
(.lett 2 (.int .u64) (.app 1 0 [.var 0])
(.lett 3 (.int .i64) (.app 1 1 [.var 0])
(.req 2 [.var 2]
(.lett 4 .num (.app 2 0 [.var 2])
(.ret [.var 4]))))))))
theorem law_prime (f1 f2 f3 f:FuncId) (e:Nat->Int) (hp:isS (e 0)):tPrime.says [kMBase f1,kLPrime f2,kOf f3] ⟨fun ys=>ys=(kPrime f).sem [e 0],[]⟩ e:=by
 show tPrime.says _ ⟨fun ys=>ys=[primeV (e 0)],[]⟩ e
 intro a1 _
 have b1:=c_eq a1
 simp only [ev_var,ev_lit] at b1
 refine ⟨fun h=>⟨trivial,fun a2 _=>?_⟩,fun h=>?_⟩
 ·have:=b_yes b1 h
  show [e 2]=_
  rw [show e 2=bP from a2,primeV,if_pos this]
 ·have h0:=b_no b1 h
  refine ⟨by show isL (e 0);unfold isS at hp;unfold isL;omega,fun a2 _ a3 _=>⟨trivial,fun a4 _=>?_⟩⟩
  show [e 4]=_
  rw [show e 4=e 2 from a4,show e 2=pL (e 0) from a2,primeV,if_neg h0]
theorem least_of {P:Nat->Prop} (h:∃ n,P n):∃ n,P n/\∀ m,m<n->¬ P m:=by
 obtain ⟨n,hn⟩:=h
 induction n using Nat.strongRecOn with
 | ind n ih =>
  by_cases hm:∃ m,m<n/\P m
  ·obtain ⟨m,h1,h2⟩:=hm
   exact ih m h1 h2
  ·exact ⟨n,hn,fun m h1 h2=>hm ⟨m,h1,h2⟩⟩
open Classical in
noncomputable def leastN (P:Nat->Prop):Nat:=if h:∃ n,P n/\∀ m,m<n->¬ P m then h.choose else 0
theorem leastN_ok {P:Nat->Prop} (h:∃ n,P n):P (leastN P)/\∀ m,m<leastN P->¬ P m:=by
 have h:=least_of h
 unfold leastN
 rw [dif_pos h]
 exact h.choose_spec
theorem leastN_eq {P:Nat->Prop} {n:Nat} (h1:P n) (h2:∀ m,m<n->¬ P m):leastN P=n:=by
 obtain ⟨k1,k2⟩:=leastN_ok ⟨n,h1⟩
 rcases Nat.lt_trichotomy (leastN P) n with h | h | h
 ·exact absurd k1 (h2 _ h)
 ·exact h
 ·exact absurd h1 (k2 _ h)
noncomputable def nearG (h:Int->Prop) (p x:Int):Nat:=leastN fun n=>h ((x+n)%p)
theorem nearG_step {h:Int->Prop} {p x:Int} (hx:0<=x/\x<p) (hex:∃ n:Nat,h ((x+n)%p)) (hno:¬ h x):nearG h p x=nearG h p ((x+1)%p)+1/\∃ n:Nat,h (((x+1)%p+n)%p):=by
 obtain ⟨h1,h2⟩:=leastN_ok hex
 have e0:∀ m:Nat,((x+1)%p+m)%p=(x+((m+1:Nat):Int))%p:=fun m=>by
  rw [Int.emod_add_emod];congr 1;omega
 have hn:nearG h p x≠0:=fun h0=>by
  have h3:h ((x+((nearG h p x:Nat):Int))%p):=h1
  rw [h0] at h3
  apply hno
  rwa [show x+((0:Nat):Int)=x by simp,Int.emod_eq_of_lt hx.1 hx.2] at h3
 obtain ⟨m,hm⟩:∃ m,nearG h p x=m+1:=⟨nearG h p x-1,by omega⟩
 have h3:h ((x+((m+1:Nat):Int))%p):=by rw [<- hm];exact h1
 have h4:nearG h p ((x+1)%p)=m:=leastN_eq (by rw [e0];exact h3) fun k hk=>by rw [e0];exact h2 _ (by show k+1<nearG h p x;omega)
 exact ⟨by rw [hm,h4],m,by rw [e0];exact h3⟩
theorem nearG_zero {h:Int->Prop} {p x:Int} (hx:0<=x/\x<p) (hh:h x):nearG h p x=0:=leastN_eq (by simpa [Int.emod_eq_of_lt hx.1 hx.2] using hh) fun m hm=>absurd hm (Nat.not_lt_zero _)
theorem wr_succ {k:Int} {j:Nat} (h:k=wr .i64 j):wr .i64 (k+1)=wr .i64 ((j+1:Nat):Int):=by
 rw [h];simp only [wr];omega
def rootL (p x:Int):Int:=pwM p (rightP p x) ((p+1)/4)
def hitL (p x:Int):Prop:=rootL p x*rootL p x%p=rightP p x
instance (p x:Int):Decidable (hitL p x):=inferInstanceAs (Decidable (_=_))
noncomputable def nearN (p x:Int):Nat:=nearG (hitL p) p x
def lowL (p y:Int):Int:=if (-y)%p<y then (-y)%p else y
noncomputable def nearV (p x:Int):List Int:=[(x+nearN p x)%p,lowL p (rootL p ((x+nearN p x)%p)),0]
theorem hit_ex {p:Int} (hp:prP p) (x:Int):∃ n:Nat,hitL p ((x+n)%p):=by
 have hpp:3<p:=by unfold prP at hp;omega
 refine ⟨((-x)%p).toNat,?_⟩
 have h1:0<=(-x)%p:=Int.emod_nonneg _ (by omega)
 have h2:(x+(((-x)%p).toNat:Int))%p=0:=by
  rw [Int.toNat_of_nonneg h1,Int.add_emod,Int.emod_emod,<- Int.add_emod,Int.add_right_neg,Int.zero_emod]
 rw [h2]
 have h3:rightP p 0=0:=by simp [rightP]
 unfold hitL rootL
 rw [h3]
 have h4:pwM p 0 ((p+1)/4)=0:=by
  unfold pwM
  rw [show (0:Int).toNat=0 from rfl,Nat.zero_pow (by omega),Nat.zero_mod];rfl
 rw [h4];simp
theorem near_ok {p:Int} (hp:prP p) (x:Int):hitL p ((x+nearN p x)%p)/\∀ m:Nat,m<nearN p x->¬ hitL p ((x+m)%p):=leastN_ok (hit_ex hp x)
noncomputable def kLNear (f:FuncId):K:={fn:=f,ext:=false,ins:=[iI,iU],outs:=[.agg [.int .u64,.int .u64,.bool],oI,oI],pre:=fun | [s,_]=>isL s | _=>False,sem:=fun | [s,x]=>nearV (pL s) x++[wr .i64 (nearN (pL s) x),0] | _=>[] }
theorem isL_prP {s:Int} (h:isL s):prP (pL s):=by
 rcases h with h | h <;> rw [h] <;> unfold prP pL <;> simp
theorem cv_pL {s:Int} (h:isL s):(cvL s).getD 0 0=pL s:=by rcases h with h | h <;> rw [h] <;> rfl
theorem root_rng {p:Int} (hp:prP p) (x:Int):0<=rootL p x/\rootL p x<p:=by
 have hpp:0<p:=by unfold prP at hp;omega
 unfold rootL pwM
 have:=Nat.mod_lt ((rightP p x).toNat^((p+1)/4).toNat) (show 0<p.toNat by omega)
 omega
theorem right_rng {p:Int} (hp:prP p) (x:Int):0<=rightP p x/\rightP p x<p:=by
 have hpp:0<p:=by unfold prP at hp;omega
 exact ⟨Int.emod_nonneg _ (by omega),Int.emod_lt_of_pos _ hpp⟩
theorem near_on {p:Int} (hp:prP p) (x:Int):onL p ⟨(x+nearN p x)%p,lowL p (rootL p ((x+nearN p x)%p)),0⟩:=by
 have hpp:0<p:=by unfold prP at hp;omega
 obtain ⟨h1,_⟩:=near_ok hp x
 have h2:=root_rng hp ((x+nearN p x)%p)
 have h3:0<=(x+nearN p x)%p/\(x+nearN p x)%p<p:=⟨Int.emod_nonneg _ (by omega),Int.emod_lt_of_pos _ hpp⟩
 unfold hitL at h1
 generalize (x+(nearN p x:Int))%p=z at *
 have h4:0<=(-rootL p z)%p/\(-rootL p z)%p<p:=⟨Int.emod_nonneg _ (by omega),Int.emod_lt_of_pos _ hpp⟩
 have h5:0<=lowL p (rootL p z)/\lowL p (rootL p z)<p/\lowL p (rootL p z)*lowL p (rootL p z)%p=rightP p z:=by
  unfold lowL
  split
  ·refine ⟨h4.1,h4.2,?_⟩
   rw [<- h1,<- Int.mul_emod,Int.neg_mul_neg]
  ·exact ⟨h2.1,h2.2,h1⟩
 refine ⟨?_,⟨h3.1,h5.1⟩,.inl rfl⟩
 unfold onP
 rw [if_pos rfl]
 exact ⟨h3.2,h5.2.1,h5.2.2⟩
def tLNear:Tree:=(.req 0 [.var 0]
(.lett 2 (.int .u64) (.app 0 0 [.var 0])
(.lett 3 (.int .u64) (.app 0 1 [.var 0])
(.lett 4 (.int .u64) (.app 0 2 [.var 0])
(.lett 5 (.int .u64) (.app 0 3 [.var 0])
(.lett 6 (.int .u64) (.app 0 4 [.var 0])
(.lett 7 .bit (.app 0 5 [.var 0])
(.lett 8 .bit (.app 0 6 [.var 0])
(.lett 9 .bit (.not (.var 8))
(.split 9
(.ret [.lit 0,.lit 0,.lit 0,.lit 0,.lit 2])
(.lett 10 (.int .u64) (.bin .rem .u64 (.var 1) (.var 2))
(.nz (.var 2)
(.loop [.var 10,.lit 0] [(.int .u64),(.int .i64)] 11
(.req 2 [.var 2,.var 3,.var 4,.var 5,.var 6,.var 7,.var 11]
(.lett 157 (.int .u64) (.app 2 0 [.var 2,.var 3,.var 4,.var 5,.var 6,.var 7,.var 11])
(.lett 301 (.int .u64) (.bin .add .u64 (.var 2) (.lit 1))
(.lett 349 (.int .u64) (.bin .quo .u64 (.var 301) (.lit 4))
(.req 1 [.var 2,.var 3,.var 4,.var 5,.var 6,.var 7,.var 157,.var 349]
(.lett 397 (.int .u64) (.app 1 0 [.var 2,.var 3,.var 4,.var 5,.var 6,.var 7,.var 157,.var 349])
(.req 3 [.var 2,.var 3,.var 4,.var 5,.var 6,.var 7,.var 397,.var 397]
(.lett 637 (.int .u64) (.app 3 0 [.var 2,.var 3,.var 4,.var 5,.var 6,.var 7,.var 397,.var 397])
(.req 2 [.var 2,.var 3,.var 4,.var 5,.var 6,.var 7,.var 11]
(.lett 781 (.int .u64) (.app 2 0 [.var 2,.var 3,.var 4,.var 5,.var 6,.var 7,.var 11])
(.lett 829 .bit (.cmp .eql (.var 637) (.var 781))
(.split 829
 (.req 5 [.var 2,.var 3,.var 4,.var 5,.var 6,.var 7,.lit 0,.var 397]
 (.lett 877 (.int .u64) (.app 5 0 [.var 2,.var 3,.var 4,.var 5,.var 6,.var 7,.lit 0,.var 397])
 (.lett 878 .bit (.cmp .lss (.var 877) (.var 397))
 (.lett 879 (.int .u64) (.put (.var 878) 1 (.var 877) (.var 397))
 (.ret [.var 11,.var 879,.lit 0,.var 12,.lit 0])))))
 (.req 4 [.var 2,.var 3,.var 4,.var 5,.var 6,.var 7,.var 11,.lit 1]
 (.lett 877 (.int .u64) (.app 4 0 [.var 2,.var 3,.var 4,.var 5,.var 6,.var 7,.var 11,.lit 1])
 (.lett 878 (.int .i64) (.bin .add .i64 (.var 12) (.lit 1))
 (.back 0 [.var 877,.var 878])))))))))))))))))))))))))))))
theorem law_lNear (f0 f1 f2 f3 f4 f5 f:FuncId) (e:Nat->Int) (hk:kkHas [.int .i64,.int .u64] [e 0,e 1]) (hp:(kLNear f).pre [e 0,e 1]):tLNear.says [kLOf f0,kLPow f1,kLRight f2,kLMul f3,kLAdd f4,kLSub f5] ⟨fun ys=>ys=(kLNear f).sem [e 0,e 1],[]⟩ e:=by
 have hl:isL (e 0):=hp
 have hx:0<=e 1:=hk.2.1.1
 show tLNear.says _ ⟨fun ys=>ys=nearV (pL (e 0)) (e 1)++[wr .i64 (nearN (pL (e 0)) (e 1)),0],[]⟩ e
 clear hk
 have hpr:=isL_prP hl
 have hok:=pL_ok (e 0)
 refine ⟨trivial,fun a2 _ a3 _ a4 _ a5 _ a6 _ a7 _ a8 _ a9 _=>?_⟩
 have v2:e 2=pL (e 0):=(show e 2=(cvL (e 0)).getD 0 0 from a2).trans (cv_pL hl)
 have v8:e 8=1:=by
  have h:e 8=(cvL (e 0)).getD 6 0:=a8
  rcases hl with hs | hs <;> rw [h,hs] <;> rfl
 have b9:=c_not a9
 simp only [ev_var] at b9
 refine ⟨fun h=>by omega,fun h=>?_⟩
 have hp0:0<e 2:=by rw [v2];have:=hok.1;omega
 intro a10 _
 have v10:e 10=e 1%e 2:=by
  rw [show e 10=(e 1).tmod (e 2) from a10,Int.tmod_eq_emod_of_nonneg hx]
 have m10:e 10=(e 1+((0:Nat):Int))%e 2:=by rw [v10];simp
 obtain ⟨n,hn⟩:∃ n,n=nearN (pL (e 0)) (e 1):=⟨_,rfl⟩
 obtain ⟨hit,miss⟩:=near_ok hpr (e 1)
 have hV:nearV (pL (e 0)) (e 1)++[wr .i64 (nearN (pL (e 0)) (e 1)),0]=[(e 1+n)%e 2,lowL (e 2) (rootL (e 2) ((e 1+n)%e 2)),0,wr .i64 n,0]:=by
  rw [hn,v2];rfl
 rw [<- hn,<- v2] at hit miss
 rw [hV]
 rw [<- v2] at hok hpr
 have hn2:n=nearN (e 2) (e 1):=by rw [hn,v2]
 clear hV v8 b9 h a3 a4 a5 a6 a7 a8 a9 hl a2 a10 hn v2
 refine ⟨by show e 2≠0;omega,fun | [x,k]=>(0<=x/\x<e 2)/\∃ j:Nat,x=(e 1+j)%e 2/\k=wr .i64 j/\j+nearN (e 2) x=n | _=>False,fun | [x,k]=>nearN (e 2) x | _=>0,?_,fun e' he hkk hI=>?_⟩
 ·show (0<=e 10/\e 10<e 2)/\∃ j:Nat,e 10=(e 1+j)%e 2/\(0:Int)=wr .i64 j/\j+nearN (e 2) (e 10)=n
  refine ⟨⟨by rw [v10];exact Int.emod_nonneg _ (by omega),by rw [v10];exact Int.emod_lt_of_pos _ hp0⟩,0,m10,rfl,?_⟩
  rw [Nat.zero_add,hn2,v10]
  unfold nearN nearG
  congr 1
  funext m
  rw [Int.emod_add_emod]
 obtain ⟨⟨x0,x1⟩,j,q1,q2,q3⟩:(0<=e' 11/\e' 11<e 2)/\∃ j:Nat,e' 11=(e 1+j)%e 2/\e' 12=wr .i64 j/\j+nearN (e 2) (e' 11)=n:=hI
 rw [<- he 2 (by decide)] at x1 q1 q3 hit miss hp0 hok hpr ⊢
 rw [<- he 1 (by decide)] at q1 hit miss ⊢
 clear he hkk m10 v10 hn2 hx
 have hr:=right_rng hpr (e' 11)
 have hy:=root_rng hpr (e' 11)
 have hquo:∀ v,v=binE .add .u64 (e' 2) 1->v=e' 2+1:=fun v h=>by
  rw [h];simp only [binE,wr];have:=hok.2;omega
 refine ⟨⟨hok,x1⟩,fun a157 _ a301 _ a349 _=>⟨hok,fun a397 _=>⟨hok,fun a637 _=>⟨⟨hok,x1⟩,fun a781 _ a829 _=>?_⟩⟩⟩⟩
 have v157:e' 157=rightP (e' 2) (e' 11):=a157
 have v301:=hquo _ a301
 have v349:e' 349=(e' 2+1)/4:=by
  rw [show e' 349=wr .u64 ((e' 301).tdiv 4) from a349,v301,Int.tdiv_eq_ediv_of_nonneg (by omega)]
  simp only [wr]
  have:=hok.2
  omega
 have v397:e' 397=rootL (e' 2) (e' 11):=by rw [show e' 397=pwM (e' 2) (e' 157) (e' 349) from a397,v157,v349];rfl
 have v637:e' 637=rootL (e' 2) (e' 11)*rootL (e' 2) (e' 11)%e' 2:=by rw [show e' 637=e' 397*e' 397%e' 2 from a637,v397]
 have v781:e' 781=rightP (e' 2) (e' 11):=a781
 have b829:=c_eq a829
 simp only [ev_var] at b829
 rw [v637,v781] at b829
 refine ⟨fun h=>?_,fun h=>?_⟩
 ·have hh:hitL (e' 2) (e' 11):=b_yes b829 h
  have hz:nearN (e' 2) (e' 11)=0:=nearG_zero ⟨x0,x1⟩ hh
  have hj:j=n:=by omega
  refine ⟨⟨hok,by show 0<e' 2;exact hp0,by show e' 397<e' 2;rw [v397];exact hy.2⟩,fun a877 _ a878 _ a879 _=>?_⟩
  have v877:e' 877=(-rootL (e' 2) (e' 11))%e' 2:=by rw [show e' 877=(0-e' 397)%e' 2 from a877,v397,Int.zero_sub]
  have b878:=c_lt a878
  simp only [ev_var] at b878
  have v879:e' 879=lowL (e' 2) (rootL (e' 2) (e' 11)):=by
   have h:e' 879=if e' 878=((1:Nat):Int) then e' 877 else e' 397:=a879
   rw [h]
   unfold lowL
   rw [v877,v397] at b878
   rcases b878 with ⟨h1,h2⟩ | ⟨h1,h2⟩
   ·rw [if_pos (by rw [h1];rfl),if_pos h2,v877]
   ·rw [if_neg (by rw [h1];decide),if_neg h2,v397]
  show [e' 11,e' 879,0,e' 12,0]=_
  rw [v879,q2,<- hj,<- q1]
 ·have hh:¬ hitL (e' 2) (e' 11):=b_no b829 h
  obtain ⟨hs,_⟩:=nearG_step (h:=hitL (e' 2)) ⟨x0,x1⟩ (hit_ex hpr _) hh
  refine ⟨⟨hok,x1,by show (1:Int)<e' 2;have:=hok.1;omega⟩,fun a877 _ a878 _=>?_⟩
  have v877:e' 877=(e' 11+1)%e' 2:=a877
  show ((0<=e' 877/\e' 877<e' 2)/\∃ j:Nat,e' 877=(e' 1+j)%e' 2/\e' 878=wr .i64 j/\j+nearN (e' 2) (e' 877)=n)/\nearN (e' 2) (e' 877)<nearN (e' 2) (e' 11)
  have hs:nearN (e' 2) (e' 11)=nearN (e' 2) (e' 877)+1:=by rw [v877];exact hs
  refine ⟨⟨⟨by rw [v877];exact Int.emod_nonneg _ (by omega),by rw [v877];exact Int.emod_lt_of_pos _ hp0⟩,j+1,?_,?_,by omega⟩,by omega⟩
  ·rw [v877,q1,Int.emod_add_emod];congr 1;omega
  ·exact (show e' 878=wr .i64 (e' 12+1) from a878).trans (wr_succ q2)
def cL (s:Int):Int:=if s=1 then 12 else 16
theorem cv_cL {s:Int} (h:isL s):(cvL s).getD 2 0=cL s:=by rcases h with h | h <;> rw [h] <;> rfl
noncomputable def kLClear (f:FuncId):K:={fn:=f,ext:=false,ins:=[iI,iPt],outs:=[.agg [.int .u64,.int .u64,.bool],oI],pre:=fun | [s,x,y,z]=>isL s/\onP (pL s) x y z | _=>False,sem:=fun | [s,x,y,z]=>(mulP (pL s) ⟨x,y,z⟩ 64 (cL s).toNat).l++[0] | _=>[] }
def tLClear:Tree:=(.req 0 [.var 0]
(.lett 4 (.int .u64) (.app 0 0 [.var 0])
(.lett 5 (.int .u64) (.app 0 1 [.var 0])
(.lett 6 (.int .u64) (.app 0 2 [.var 0])
(.lett 7 (.int .u64) (.app 0 3 [.var 0])
(.lett 8 (.int .u64) (.app 0 4 [.var 0])
(.lett 9 .bit (.app 0 5 [.var 0])
(.lett 10 .bit (.app 0 6 [.var 0])
(.lett 11 .bit (.not (.var 10))
(.split 11
(.ret [.lit 0,.lit 0,.lit 0,.lit 2])
(.req 1 [.var 4,.var 5,.var 6,.var 7,.var 8,.var 9,.var 1,.var 2,.var 3]
(.lett 12 .bit (.app 1 0 [.var 4,.var 5,.var 6,.var 7,.var 8,.var 9,.var 1,.var 2,.var 3])
(.lett 13 .bit (.not (.var 12))
(.split 13
 (.ret [.lit 0,.lit 0,.lit 0,.lit 5])
 (.req 2 [.var 4,.var 5,.var 6,.var 7,.var 8,.var 9,.var 1,.var 2,.var 3,.var 6]
 (.lett 14 (.int .u64) (.app 2 0 [.var 4,.var 5,.var 6,.var 7,.var 8,.var 9,.var 1,.var 2,.var 3,.var 6])
 (.lett 15 (.int .u64) (.app 2 1 [.var 4,.var 5,.var 6,.var 7,.var 8,.var 9,.var 1,.var 2,.var 3,.var 6])
 (.lett 16 .bit (.app 2 2 [.var 4,.var 5,.var 6,.var 7,.var 8,.var 9,.var 1,.var 2,.var 3,.var 6])
 (.ret [.var 14,.var 15,.var 16,.lit 0])))))))))))))))))))
theorem law_lClear (f1 f2 f3 f:FuncId) (e:Nat->Int) (hp:(kLClear f).pre [e 0,e 1,e 2,e 3]):tLClear.says [kLOf f1,kLOn f2,kLTimes f3] ⟨fun ys=>ys=(kLClear f).sem [e 0,e 1,e 2,e 3],[]⟩ e:=by
 obtain ⟨hl,ho⟩:isL (e 0)/\onP (pL (e 0)) (e 1) (e 2) (e 3):=hp
 have hok:=pL_ok (e 0)
 show tLClear.says _ ⟨fun ys=>ys=(mulP (pL (e 0)) ⟨e 1,e 2,e 3⟩ 64 (cL (e 0)).toNat).l++[0],[]⟩ e
 refine ⟨trivial,fun a4 _ a5 _ a6 _ a7 _ a8 _ a9 _ a10 _ a11 _=>?_⟩
 have v4:e 4=pL (e 0):=(show e 4=(cvL (e 0)).getD 0 0 from a4).trans (cv_pL hl)
 have v6:e 6=cL (e 0):=(show e 6=(cvL (e 0)).getD 2 0 from a6).trans (cv_cL hl)
 have v10:e 10=1:=by rw [show e 10=(cvL (e 0)).getD 6 0 from a10,cvL_t hl];rfl
 have b11:=c_not a11
 simp only [ev_var] at b11
 refine ⟨fun h=>by omega,fun _=>⟨(by show pOk (e 4);rw [v4];exact hok),fun a12 _ a13 _=>?_⟩⟩
 have v12:e 12=bi (onP (e 4) (e 1) (e 2) (e 3)):=a12
 rw [v4,bi_bj,bj_t ho] at v12
 have b13:=c_not a13
 simp only [ev_var] at b13
 have hlt:=on_lt (show 0<pL (e 0) by have:=hok.1;omega) ho
 refine ⟨fun h=>by omega,fun _=>⟨(by show pOk (e 4)/\e 1<e 4/\e 2<e 4;rw [v4];exact ⟨hok,hlt.1,hlt.2⟩),fun a14 _ a15 _ a16 _=>?_⟩⟩
 have hs:[e 14,e 15,e 16]=(mulP (e 4) ⟨e 1,e 2,e 3⟩ 64 (e 6).toNat).l:=by
  rw [show e 14=_ from a14,show e 15=_ from a15,show e 16=_ from a16];rfl
 rw [v4,v6] at hs
 show [e 14,e 15,e 16,0]=_
 rw [<- hs];rfl
noncomputable def nearP (p x:Int):Pt:=⟨(x+nearN p x)%p,lowL p (rootL p ((x+nearN p x)%p)),0⟩
noncomputable def hashL (s tag:Int) (t:List Int):Pt:=mulP (pL s) (nearP (pL s) (wideV (pL s) tag t)) 64 (cL s).toNat
noncomputable def kNear (Q:Int->List Int->Prop) (f:FuncId):K:={fn:=f,ext:=false,ins:=[iI,.one (.int .u8),.lst (.int .u8)],outs:=[.agg [.int .u64,.int .u64,.bool]],pre:=fun | [s,g,t]=>isL s/\(dec t).length<=65536/\Q g (dec t) | _=>False,sem:=fun | [s,tag,t]=>(hashL s tag (dec t)).l | _=>[] }
theorem pL_wide {s:Int} (h:isL s):pL s%2=1/\3<=pL s/\pL s<2^382:=by
 have h2:(1152921504606846223:Int)<2^382:=by decide +kernel
 have h1:(786251:Int)<2^382:=by decide +kernel
 rcases h with h | h <;> rw [h]
 ·exact ⟨by decide,by decide,h1⟩
 ·exact ⟨by decide,by decide,h2⟩
theorem primeV_L {s:Int} (h:isL s):primeV s=pL s:=by rcases h with h | h <;> rw [h] <;> rfl
def tNear:Tree:=(.req 0 [.var 0]
(.lett 3 .num (.app 0 0 [.var 0])
(.req 1 [.var 3,.var 1,.var 2]
(.lett 4 .num (.app 1 0 [.var 3,.var 1,.var 2])
(.req 2 [.var 0,.limb 4 0]
(.lett 5 (.int .u64) (.app 2 0 [.var 0,.limb 4 0])
(.lett 6 (.int .u64) (.app 2 1 [.var 0,.limb 4 0])
(.lett 7 .bit (.app 2 2 [.var 0,.limb 4 0])
(.lett 8 (.int .i64) (.app 2 3 [.var 0,.limb 4 0])
(.lett 9 (.int .i64) (.app 2 4 [.var 0,.limb 4 0])
(.req 3 [.var 0,.var 5,.var 6,.var 7]
(.lett 10 (.int .u64) (.app 3 0 [.var 0,.var 5,.var 6,.var 7])
(.lett 11 (.int .u64) (.app 3 1 [.var 0,.var 5,.var 6,.var 7])
(.lett 12 .bit (.app 3 2 [.var 0,.var 5,.var 6,.var 7])
(.lett 13 (.int .i64) (.app 3 3 [.var 0,.var 5,.var 6,.var 7])
(.ret [.var 10,.var 11,.var 12]))))))))))))))))
theorem law_near (Q:Int->List Int->Prop) (f0 f1 f2 f3 f:FuncId) (e:Nat->Int) (hp:(kNear Q f).pre [e 0,e 1,e 2]):tNear.says [kPrime f0,kWide Q f1,kLNear f2,kLClear f3] ⟨fun ys=>ys=(kNear Q f).sem [e 0,e 1,e 2],[]⟩ e:=by
 obtain ⟨hl,ht,hq⟩:isL (e 0)/\(dec (e 2)).length<=65536/\Q (e 1) (dec (e 2)):=hp
 show tNear.says _ ⟨fun ys=>ys=(hashL (e 0) (e 1) (dec (e 2))).l,[]⟩ e
 refine ⟨by show isS (e 0);unfold isL at hl;unfold isS;omega,fun a3 _=>?_⟩
 have v3:e 3=pL (e 0):=(show e 3=primeV (e 0) from a3).trans (primeV_L hl)
 refine ⟨⟨by show e 3%2=1/\3<=e 3/\e 3<2^382;rw [v3];exact pL_wide hl,ht,hq⟩,fun a4 _=>?_⟩
 have v4:e 4=wideV (pL (e 0)) (e 1) (dec (e 2)):=by rw [show e 4=wideV (e 3) (e 1) (dec (e 2)) from a4,v3]
 have hok:=pL_ok (e 0)
 have r4:0<=e 4/\e 4<4611686018427387904:=by
  rw [v4]
  have h1:=Int.emod_nonneg (readV ((allV (e 1) (dec (e 2))).drop 16)+readV ((allV (e 1) (dec (e 2))).take 16)*N384) (show pL (e 0)≠0 by have:=hok.1;omega)
  have h2:=Int.emod_lt_of_pos (readV ((allV (e 1) (dec (e 2))).drop 16)+readV ((allV (e 1) (dec (e 2))).take 16)*N384) (show 0<pL (e 0) by have:=hok.1;omega)
  exact ⟨h1,by have:=hok.2;unfold wideV;omega⟩
 have l4:A.ev e (.limb 4 0)=e 4:=by
  show e 4/p64 0%18446744073709551616=e 4
  rw [show p64 0=1 from rfl,Int.ediv_one];omega
 refine ⟨hl,fun a5 _ a6 _ a7 _ a8 _ a9 _=>?_⟩
 have v5:e 5=(nearV (pL (e 0)) (A.ev e (.limb 4 0))).getD 0 0:=a5
 have v6:e 6=(nearV (pL (e 0)) (A.ev e (.limb 4 0))).getD 1 0:=a6
 have v7:e 7=0:=a7
 rw [l4,v4] at v5 v6
 have hon:=near_on (isL_prP hl) (wideV (pL (e 0)) (e 1) (dec (e 2)))
 refine ⟨⟨hl,by show onP (pL (e 0)) (e 5) (e 6) (e 7);rw [v5,v6,v7];exact hon.1⟩,fun a10 _ a11 _ a12 _ a13 _=>?_⟩
 have hs:[e 10,e 11,e 12]=(mulP (pL (e 0)) ⟨e 5,e 6,e 7⟩ 64 (cL (e 0)).toNat).l:=by
  rw [show e 10=_ from a10,show e 11=_ from a11,show e 12=_ from a12];rfl
 show [e 10,e 11,e 12]=_
 rw [hs,v5,v6,v7];rfl
abbrev lsSgL:List L:=[.int .i64,.num,.num,.num,.num,.bool,.int .u64,.int .u64,.bool]
abbrev lsQL:List L:=[.num,.num,.num,.num,.bool]
noncomputable def kHSigL (Q:Int->List Int->Prop) (f:FuncId):K:={fn:=f,ext:=false,ins:=[iI,.ll],outs:=[.agg lsSgL,oI],pre:=fun | [s,x]=>isL s/\fitP x/\totP (dec x)<=65536/\Q 3 (joinP (dec x)) | _=>False,sem:=fun | [s,x]=>[s,0,0,0,0,0]++(hashL s 3 (joinP (dec x))).l++[0] | _=>[] }
def tHashSigL:Tree:=(.req 0 [.var 0,.var 1]
(.lett 2 (.lst (.int .u8)) (.app 0 0 [.var 0,.var 1])
(.lett 3 (.int .i64) (.app 0 1 [.var 0,.var 1])
(.lett 4 .bit (.cmp .neq (.var 3) (.lit 0))
(.split 4
(.ret [.lit 0,.lit 0,.lit 0,.lit 0,.lit 0,.lit 0,.lit 0,.lit 0,.lit 0,.var 3])
(.lett 5 .bit (.cmp .eql (.var 0) (.lit 0))
(.split 5
 (.req 1 [.var 0]
 (.lett 6 .num (.app 1 0 [.var 0])
 (.req 2 [.var 6,.lit 3,.var 2]
 (.lett 7 .num (.app 2 0 [.var 6,.lit 3,.var 2])
 (.req 1 [.var 0]
 (.lett 8 .num (.app 1 0 [.var 0])
 (.req 2 [.var 8,.lit 4,.var 2]
 (.lett 9 .num (.app 2 0 [.var 8,.lit 4,.var 2])
 (.req 3 [.var 7,.var 9]
 (.lett 10 .num (.app 3 0 [.var 7,.var 9])
 (.lett 11 .num (.app 3 1 [.var 7,.var 9])
 (.lett 12 .num (.app 3 2 [.var 7,.var 9])
 (.lett 13 .num (.app 3 3 [.var 7,.var 9])
 (.lett 14 .bit (.app 3 4 [.var 7,.var 9])
 (.lett 15 (.int .i64) (.app 3 5 [.var 7,.var 9])
 (.req 4 [.var 10,.var 11,.var 12,.var 13,.var 14]
 (.lett 16 .num (.app 4 0 [.var 10,.var 11,.var 12,.var 13,.var 14])
 (.lett 17 .num (.app 4 1 [.var 10,.var 11,.var 12,.var 13,.var 14])
 (.lett 18 .num (.app 4 2 [.var 10,.var 11,.var 12,.var 13,.var 14])
 (.lett 19 .num (.app 4 3 [.var 10,.var 11,.var 12,.var 13,.var 14])
 (.lett 20 .bit (.app 4 4 [.var 10,.var 11,.var 12,.var 13,.var 14])
 (.lett 21 (.int .i64) (.app 4 5 [.var 10,.var 11,.var 12,.var 13,.var 14])
 (.ret [.var 0,.var 16,.var 17,.var 18,.var 19,.var 20,.lit 0,.lit 0,.lit 0,.lit 0])))))))))))))))))))))))
 (.req 5 [.var 0,.lit 3,.var 2]
 (.lett 6 (.int .u64) (.app 5 0 [.var 0,.lit 3,.var 2])
 (.lett 7 (.int .u64) (.app 5 1 [.var 0,.lit 3,.var 2])
 (.lett 8 .bit (.app 5 2 [.var 0,.lit 3,.var 2])
 (.ret [.var 0,.lit 0,.lit 0,.lit 0,.lit 0,.lit 0,.var 6,.var 7,.var 8,.lit 0]))))))))))))
theorem text_casesL {s x a b:Int} (ha:a=(if isS s then textV x else [0,2]).getD 0 0) (hb:b=(if isS s then textV x else [0,2]).getD 1 0) :
  (¬ isS s/\b=2)∨(isS s/\¬ totP (dec x)<=65536/\b=3)∨(isS s/\totP (dec x)<=65536/\b=0/\dec a=joinP (dec x)):=by
 by_cases hs:isS s
 ·rw [if_pos hs] at ha hb
  unfold textV at ha hb
  by_cases ht:totP (dec x)<=65536
  ·rw [if_pos ht] at ha hb
   exact .inr (.inr ⟨hs,ht,hb,by rw [ha];exact dec_enc _⟩)
  ·rw [if_neg ht] at ha hb
   exact .inr (.inl ⟨hs,ht,hb⟩)
 ·rw [if_neg hs] at ha hb
  exact .inl ⟨hs,hb⟩
theorem law_hSigL (Q:Int->List Int->Prop) (te:TypeId) (f0 f1 f2 f3 f4 f5 f:FuncId) (e:Nat->Int) (hp:(kHSigL Q f).pre [e 0,e 1]):tHashSigL.says [kText te f0,kPrime f1,kWide Q f2,kNever f3 [.agg [.num,.num]] [.agg lsQL,oI],kNever f4 [.agg lsQL] [.agg lsQL,oI],kNear Q f5] ⟨fun ys=>ys=(kHSigL Q f).sem [e 0,e 1],[]⟩ e:=by
 obtain ⟨hl,hp,ht,hq⟩:isL (e 0)/\fitP (e 1)/\totP (dec (e 1))<=65536/\Q 3 (joinP (dec (e 1))):=hp
 show tHashSigL.says _ ⟨fun ys=>ys=[e 0,0,0,0,0,0]++(hashL (e 0) 3 (joinP (dec (e 1)))).l++[0],[]⟩ e
 have hs:isS (e 0):=by unfold isL at hl;unfold isS;omega
 refine ⟨hp,fun a2 _ a3 _ a4 _=>?_⟩
 have a3:e 3=_:=a3
 have b4:=c_ne a4
 simp only [ev_var,ev_lit] at b4
 rcases text_casesL (s:=e 0) (x:=e 1) a2 a3 with ⟨h1,h2⟩ | ⟨h1,h2,h3⟩ | ⟨h1,h2,h3,h4⟩
 ·exact absurd hs h1
 ·exact absurd ht h2
 ·refine ⟨fun h=>by omega,fun _ a5 _=>?_⟩
  have b5:=c_eq a5
  simp only [ev_var,ev_lit] at b5
  have hlen:(joinP (dec (e 1))).length<=65536:=by have:=joinP_len (dec (e 1));omega
  refine ⟨fun h=>?_,fun h=>?_⟩
  ·have h0:=b_yes b5 h
   unfold isL at hl;omega
  ·refine ⟨⟨hl,by show (dec (e 2)).length<=65536;rw [h4];exact hlen,by show Q 3 (dec (e 2));rw [h4];exact hq⟩,fun a6 _ a7 _ a8 _=>?_⟩
   have r:([e 6,e 7,e 8]:List Int)=(hashL (e 0) 3 (joinP (dec (e 1)))).l:=by
    rw [<- h4,show e 6=_ from a6,show e 7=_ from a7,show e 8=_ from a8];rfl
   show [e 0,0,0,0,0,0,e 6,e 7,e 8,0]=_
   rw [<- r];rfl
def rotO:Oracle:=fun g ws=>match g,ws with
 | 0,[.wi x,.wi n]=>if 1<=n/\n<=31 then some [.wi (Sha.rot x n)] else none
 | _,_=>none
theorem rot_or (f1:FuncId):OrOk [Sha.kRot f1] rotO:=fun g us os h=>by
 unfold rotO at h
 split at h
 ·split at h
  ·rename_i hn
   cases h
   exact ⟨_,rfl,hn,rfl⟩
  ·cases h
 ·cases h
def isLw (l:List Int):Option Rs->Bool | some (.done [.wl k])=>intsEq k l | _=>false
def sumAt (t:Tree) (l:List Int):Bool:=isLw (Sha.sha l) (t.cr rotO 200 0 [(0,.wl l)])
theorem sumAt_says {t:Tree} {l:List Int} (h:sumAt t l=true) (f1:FuncId) {e:Nat->Int} (he:e 0=enc l):t.says [Sha.kRot f1] ⟨fun ys=>ys=[enc (Sha.sha (dec (e 0)))],[]⟩ e:=by
 unfold sumAt at h
 obtain ⟨r,hr⟩:∃ r,t.cr rotO 200 0 [(0,.wl l)]=r:=⟨_,rfl⟩
 rw [hr] at h
 match r,h with
 | some (.done [.wl k]),h =>
  have hk:k=Sha.sha l:=intsEq_ok h
  refine cr_says (rot_or f1) t ⟨_,[]⟩ e [(0,.wl l)] (.done [.wl k]) hr (fun p hp=>?_) ?_
  ·rw [List.mem_singleton] at hp;subst hp;exact he
  ·show [enc k]=_
   rw [he,dec_enc,hk]
theorem sum_says {Q:Int->List Int->Prop} {t:Tree} (hc:∀ g x,Q g x->sumAt t (g::0::x)=true/\sumAt t (g::1::x)=true) (f1 f:FuncId) {e:Nat->Int} (hp:(kSumQ Q f).pre [e 0]):t.says [Sha.kRot f1] ⟨fun ys=>ys=(kSumQ Q f).sem [e 0],[]⟩ e:=by
 obtain ⟨g,x,hq,hx⟩:∃ g x,Q g x/\(e 0=enc (g::0::x)∨e 0=enc (g::1::x)):=hp
 have h:=hc g x hq
 rcases hx with hx | hx
 ·exact sumAt_says h.1 f1 hx
 ·exact sumAt_says h.2 f1 hx
def tDSum:Tree:=(.lett 1 (.int .i64) (.llen (.var 0))
(.lett 2 (.arr .u32 8) (.lapp (.lit 0) [.lit 1779033703,.lit 3144134277,.lit 1013904242,.lit 2773480762,.lit 1359893119,.lit 2600822924,.lit 528734635,.lit 1541459225])
(.lett 3 (.arr .u8 64) (.lapp (.lit 0) [.lit 0,.lit 0,.lit 0,.lit 0,.lit 0,.lit 0,.lit 0,.lit 0,.lit 0,.lit 0,.lit 0,.lit 0,.lit 0,.lit 0,.lit 0,.lit 0,.lit 0,.lit 0,.lit 0,.lit 0,.lit 0,.lit 0,.lit 0,.lit 0,.lit 0,.lit 0,.lit 0,.lit 0,.lit 0,.lit 0,.lit 0,.lit 0,.lit 0,.lit 0,.lit 0,.lit 0,.lit 0,.lit 0,.lit 0,.lit 0,.lit 0,.lit 0,.lit 0,.lit 0,.lit 0,.lit 0,.lit 0,.lit 0,.lit 0,.lit 0,.lit 0,.lit 0,.lit 0,.lit 0,.lit 0,.lit 0,.lit 0,.lit 0,.lit 0,.lit 0,.lit 0,.lit 0,.lit 0,.lit 0])
(.loop [.lit 0,.var 2,.var 3,.lit 0,.lit 1] [(.int .i64),(.arr .u32 8),(.arr .u8 64),(.int .i64),.bit] 4
(.lett 9 .bit (.cmp .lss (.var 4) (.var 1))
(.split 9
(.lett 10 (.int .i64) (.llen (.var 0))
(.lett 11 .bit (.cmp .leq (.lit 0) (.var 4))
(.lett 12 .bit (.cmp .lss (.var 4) (.var 10))
(.nz (.var 11)
(.nz (.var 12)
(.lett 13 (.int .u8) (.lget (.var 0) (.var 4))
(.lett 254 (.int .i64) (.bin .rem .i64 (.var 7) (.lit 64))
(.lett 446 .bit (.cmp .leq (.lit 0) (.var 254))
(.lett 447 .bit (.cmp .lss (.var 254) (.lit 64))
(.nz (.var 446)
(.nz (.var 447)
(.lett 494 (.arr .u8 64) (.lsub (.var 6) (.lit 0) (.lit 64))
(.lett 495 (.arr .u8 64) (.lput (.var 494) (.var 254) (.var 13))
(.lett 542 (.int .i64) (.bin .add .i64 (.var 7) (.lit 1))
(.lett 543 (.int .i64) (.bin .rem .i64 (.var 542) (.lit 64))
(.lett 544 .bit (.cmp .eql (.var 543) (.lit 0))
(.split 544
 (.lett 929 (.arr .u32 64) (.lapp (.lit 0) [.lit 0,.lit 0,.lit 0,.lit 0,.lit 0,.lit 0,.lit 0,.lit 0,.lit 0,.lit 0,.lit 0,.lit 0,.lit 0,.lit 0,.lit 0,.lit 0,.lit 0,.lit 0,.lit 0,.lit 0,.lit 0,.lit 0,.lit 0,.lit 0,.lit 0,.lit 0,.lit 0,.lit 0,.lit 0,.lit 0,.lit 0,.lit 0,.lit 0,.lit 0,.lit 0,.lit 0,.lit 0,.lit 0,.lit 0,.lit 0,.lit 0,.lit 0,.lit 0,.lit 0,.lit 0,.lit 0,.lit 0,.lit 0,.lit 0,.lit 0,.lit 0,.lit 0,.lit 0,.lit 0,.lit 0,.lit 0,.lit 0,.lit 0,.lit 0,.lit 0,.lit 0,.lit 0,.lit 0,.lit 0])
 (.loop [.lit 0,.var 929] [(.int .i64),(.arr .u32 64)] 930
 (.lett 932 .bit (.cmp .lss (.var 930) (.lit 64))
 (.split 932
 (.lett 933 .bit (.cmp .lss (.var 930) (.lit 16))
 (.split 933
 (.lett 1078 (.int .i64) (.bin .mul .i64 (.lit 4) (.var 930))
 (.lett 1126 .bit (.cmp .leq (.lit 0) (.var 1078))
 (.lett 1127 .bit (.cmp .lss (.var 1078) (.lit 64))
 (.nz (.var 1126)
 (.nz (.var 1127)
 (.lett 1174 (.int .u8) (.lget (.var 495) (.var 1078))
 (.lett 1270 (.int .u32) (.bin .shl .u32 (.var 1174) (.lit 24))
 (.lett 1414 (.int .i64) (.bin .mul .i64 (.lit 4) (.var 930))
 (.lett 1462 (.int .i64) (.bin .add .i64 (.var 1414) (.lit 1))
 (.lett 1510 .bit (.cmp .leq (.lit 0) (.var 1462))
 (.lett 1511 .bit (.cmp .lss (.var 1462) (.lit 64))
 (.nz (.var 1510)
 (.nz (.var 1511)
 (.lett 1558 (.int .u8) (.lget (.var 495) (.var 1462))
 (.lett 1654 (.int .u32) (.bin .shl .u32 (.var 1558) (.lit 16))
 (.lett 1702 (.int .u32) (.bin .or .u32 (.var 1270) (.var 1654))
 (.lett 1846 (.int .i64) (.bin .mul .i64 (.lit 4) (.var 930))
 (.lett 1894 (.int .i64) (.bin .add .i64 (.var 1846) (.lit 2))
 (.lett 1942 .bit (.cmp .leq (.lit 0) (.var 1894))
 (.lett 1943 .bit (.cmp .lss (.var 1894) (.lit 64))
 (.nz (.var 1942)
 (.nz (.var 1943)
 (.lett 1990 (.int .u8) (.lget (.var 495) (.var 1894))
 (.lett 2086 (.int .u32) (.bin .shl .u32 (.var 1990) (.lit 8))
 (.lett 2134 (.int .u32) (.bin .or .u32 (.var 1702) (.var 2086))
 (.lett 2278 (.int .i64) (.bin .mul .i64 (.lit 4) (.var 930))
 (.lett 2326 (.int .i64) (.bin .add .i64 (.var 2278) (.lit 3))
 (.lett 2374 .bit (.cmp .leq (.lit 0) (.var 2326))
 (.lett 2375 .bit (.cmp .lss (.var 2326) (.lit 64))
 (.nz (.var 2374)
 (.nz (.var 2375)
 (.lett 2422 (.int .u8) (.lget (.var 495) (.var 2326))
 (.lett 2518 (.int .u32) (.bin .or .u32 (.var 2134) (.var 2422))
 (.lett 2566 .bit (.cmp .leq (.lit 0) (.var 930))
 (.lett 2567 .bit (.cmp .lss (.var 930) (.lit 64))
 (.nz (.var 2566)
 (.nz (.var 2567)
 (.lett 2614 (.arr .u32 64) (.lsub (.var 931) (.lit 0) (.lit 64))
 (.lett 2615 (.arr .u32 64) (.lput (.var 2614) (.var 930) (.var 2518))
 (.lett 2662 (.int .i64) (.bin .add .i64 (.var 930) (.lit 1))
 (.lett 2663 (.arr .u32 64) (.lsub (.var 2615) (.lit 0) (.lit 64))
 (.back 1 [.var 2662,.var 2663]))))))))))))))))))))))))))))))))))))))))))
 (.lett 982 (.int .i64) (.bin .sub .i64 (.var 930) (.lit 15))
 (.lett 1030 .bit (.cmp .leq (.lit 0) (.var 982))
 (.lett 1031 .bit (.cmp .lss (.var 982) (.lit 64))
 (.nz (.var 1030)
 (.nz (.var 1031)
 (.lett 1078 (.int .u32) (.lget (.var 931) (.var 982))
 (.lett 1174 (.int .i64) (.bin .sub .i64 (.var 930) (.lit 2))
 (.lett 1222 .bit (.cmp .leq (.lit 0) (.var 1174))
 (.lett 1223 .bit (.cmp .lss (.var 1174) (.lit 64))
 (.nz (.var 1222)
 (.nz (.var 1223)
 (.lett 1270 (.int .u32) (.lget (.var 931) (.var 1174))
 (.req 0 [.var 1270,.lit 17]
 (.lett 1510 (.int .u32) (.app 0 0 [.var 1270,.lit 17])
 (.req 0 [.var 1270,.lit 19]
 (.lett 1606 (.int .u32) (.app 0 0 [.var 1270,.lit 19])
 (.lett 1654 (.int .u32) (.bin .xor .u32 (.var 1510) (.var 1606))
 (.lett 1750 (.int .u32) (.bin .shr .u32 (.var 1270) (.lit 10))
 (.lett 1798 (.int .u32) (.bin .xor .u32 (.var 1654) (.var 1750))
 (.lett 1894 (.int .i64) (.bin .sub .i64 (.var 930) (.lit 7))
 (.lett 1942 .bit (.cmp .leq (.lit 0) (.var 1894))
 (.lett 1943 .bit (.cmp .lss (.var 1894) (.lit 64))
 (.nz (.var 1942)
 (.nz (.var 1943)
 (.lett 1990 (.int .u32) (.lget (.var 931) (.var 1894))
 (.lett 2038 (.int .u32) (.bin .add .u32 (.var 1798) (.var 1990))
 (.req 0 [.var 1078,.lit 7]
 (.lett 2134 (.int .u32) (.app 0 0 [.var 1078,.lit 7])
 (.req 0 [.var 1078,.lit 18]
 (.lett 2230 (.int .u32) (.app 0 0 [.var 1078,.lit 18])
 (.lett 2278 (.int .u32) (.bin .xor .u32 (.var 2134) (.var 2230))
 (.lett 2374 (.int .u32) (.bin .shr .u32 (.var 1078) (.lit 3))
 (.lett 2422 (.int .u32) (.bin .xor .u32 (.var 2278) (.var 2374))
 (.lett 2470 (.int .u32) (.bin .add .u32 (.var 2038) (.var 2422))
 (.lett 2566 (.int .i64) (.bin .sub .i64 (.var 930) (.lit 16))
 (.lett 2614 .bit (.cmp .leq (.lit 0) (.var 2566))
 (.lett 2615 .bit (.cmp .lss (.var 2566) (.lit 64))
 (.nz (.var 2614)
 (.nz (.var 2615)
 (.lett 2662 (.int .u32) (.lget (.var 931) (.var 2566))
 (.lett 2710 (.int .u32) (.bin .add .u32 (.var 2470) (.var 2662))
 (.lett 2758 .bit (.cmp .leq (.lit 0) (.var 930))
 (.lett 2759 .bit (.cmp .lss (.var 930) (.lit 64))
 (.nz (.var 2758)
 (.nz (.var 2759)
 (.lett 2806 (.arr .u32 64) (.lsub (.var 931) (.lit 0) (.lit 64))
 (.lett 2807 (.arr .u32 64) (.lput (.var 2806) (.var 930) (.var 2710))
 (.lett 2854 (.int .i64) (.bin .add .i64 (.var 930) (.lit 1))
 (.lett 2855 (.arr .u32 64) (.lsub (.var 2807) (.lit 0) (.lit 64))
 (.back 1 [.var 2854,.var 2855]))))))))))))))))))))))))))))))))))))))))))))))))))))
 (.lett 933 (.arr .u32 8) (.lsub (.var 5) (.lit 0) (.lit 8))
 (.loop [.lit 0,.var 933] [(.int .i64),(.arr .u32 8)] 934
 (.lett 936 .bit (.cmp .lss (.var 934) (.lit 64))
 (.split 936
 (.req 0 [(.elt .u32 935 4),.lit 6]
 (.lett 1369 (.int .u32) (.app 0 0 [(.elt .u32 935 4),.lit 6])
 (.req 0 [(.elt .u32 935 4),.lit 11]
 (.lett 1465 (.int .u32) (.app 0 0 [(.elt .u32 935 4),.lit 11])
 (.lett 1513 (.int .u32) (.bin .xor .u32 (.var 1369) (.var 1465))
 (.req 0 [(.elt .u32 935 4),.lit 25]
 (.lett 1609 (.int .u32) (.app 0 0 [(.elt .u32 935 4),.lit 25])
 (.lett 1657 (.int .u32) (.bin .xor .u32 (.var 1513) (.var 1609))
 (.lett 1705 (.int .u32) (.bin .add .u32 (.elt .u32 935 7) (.var 1657))
 (.lett 1897 (.int .u32) (.bin .and .u32 (.elt .u32 935 4) (.elt .u32 935 5))
 (.lett 1993 (.int .u32) (.bin .xor .u32 (.lit 4294967295) (.elt .u32 935 4))
 (.lett 2137 (.int .u32) (.bin .and .u32 (.var 1993) (.elt .u32 935 6))
 (.lett 2185 (.int .u32) (.bin .xor .u32 (.var 1897) (.var 2137))
 (.lett 2233 (.int .u32) (.bin .add .u32 (.var 1705) (.var 2185))
 (.lett 2329 .bit (.cmp .leq (.lit 0) (.var 934))
 (.lett 2330 .bit (.cmp .lss (.var 934) (.lit 64))
 (.nz (.var 2329)
 (.nz (.var 2330)
 (.lett 2377 (.int .u32) (.sel (.var 934) [.lit 1116352408,.lit 1899447441,.lit 3049323471,.lit 3921009573,.lit 961987163,.lit 1508970993,.lit 2453635748,.lit 2870763221,.lit 3624381080,.lit 310598401,.lit 607225278,.lit 1426881987,.lit 1925078388,.lit 2162078206,.lit 2614888103,.lit 3248222580,.lit 3835390401,.lit 4022224774,.lit 264347078,.lit 604807628,.lit 770255983,.lit 1249150122,.lit 1555081692,.lit 1996064986,.lit 2554220882,.lit 2821834349,.lit 2952996808,.lit 3210313671,.lit 3336571891,.lit 3584528711,.lit 113926993,.lit 338241895,.lit 666307205,.lit 773529912,.lit 1294757372,.lit 1396182291,.lit 1695183700,.lit 1986661051,.lit 2177026350,.lit 2456956037,.lit 2730485921,.lit 2820302411,.lit 3259730800,.lit 3345764771,.lit 3516065817,.lit 3600352804,.lit 4094571909,.lit 275423344,.lit 430227734,.lit 506948616,.lit 659060556,.lit 883997877,.lit 958139571,.lit 1322822218,.lit 1537002063,.lit 1747873779,.lit 1955562222,.lit 2024104815,.lit 2227730452,.lit 2361852424,.lit 2428436474,.lit 2756734187,.lit 3204031479,.lit 3329325298])
 (.lett 2425 (.int .u32) (.bin .add .u32 (.var 2233) (.var 2377))
 (.lett 2521 .bit (.cmp .leq (.lit 0) (.var 934))
 (.lett 2522 .bit (.cmp .lss (.var 934) (.lit 64))
 (.nz (.var 2521)
 (.nz (.var 2522)
 (.lett 2569 (.int .u32) (.lget (.var 931) (.var 934))
 (.lett 2617 (.int .u32) (.bin .add .u32 (.var 2425) (.var 2569))
 (.req 0 [(.elt .u32 935 0),.lit 2]
 (.lett 2761 (.int .u32) (.app 0 0 [(.elt .u32 935 0),.lit 2])
 (.req 0 [(.elt .u32 935 0),.lit 13]
 (.lett 2857 (.int .u32) (.app 0 0 [(.elt .u32 935 0),.lit 13])
 (.lett 2905 (.int .u32) (.bin .xor .u32 (.var 2761) (.var 2857))
 (.req 0 [(.elt .u32 935 0),.lit 22]
 (.lett 3001 (.int .u32) (.app 0 0 [(.elt .u32 935 0),.lit 22])
 (.lett 3049 (.int .u32) (.bin .xor .u32 (.var 2905) (.var 3001))
 (.lett 3241 (.int .u32) (.bin .and .u32 (.elt .u32 935 0) (.elt .u32 935 1))
 (.lett 3433 (.int .u32) (.bin .and .u32 (.elt .u32 935 0) (.elt .u32 935 2))
 (.lett 3481 (.int .u32) (.bin .xor .u32 (.var 3241) (.var 3433))
 (.lett 3721 (.int .u32) (.bin .and .u32 (.elt .u32 935 1) (.elt .u32 935 2))
 (.lett 3769 (.int .u32) (.bin .xor .u32 (.var 3481) (.var 3721))
 (.lett 3817 (.int .u32) (.bin .add .u32 (.var 3049) (.var 3769))
 (.lett 3913 (.int .u32) (.bin .add .u32 (.var 2617) (.var 3817))
 (.lett 3914 (.int .u32) (.bin .add .u32 (.elt .u32 935 3) (.var 2617))
 (.lett 3915 (.int .i64) (.bin .add .i64 (.var 934) (.lit 1))
 (.lett 3916 (.arr .u32 8) (.lapp (.lit 0) [.var 3913,(.elt .u32 935 0),(.elt .u32 935 1),(.elt .u32 935 2),.var 3914,(.elt .u32 935 4),(.elt .u32 935 5),(.elt .u32 935 6)])
 (.back 2 [.var 3915,.var 3916])))))))))))))))))))))))))))))))))))))))))))))
 (.lett 1321 (.int .u32) (.bin .add .u32 (.elt .u32 5 0) (.elt .u32 935 0))
 (.lett 1897 (.int .u32) (.bin .add .u32 (.elt .u32 5 1) (.elt .u32 935 1))
 (.lett 2473 (.int .u32) (.bin .add .u32 (.elt .u32 5 2) (.elt .u32 935 2))
 (.lett 3049 (.int .u32) (.bin .add .u32 (.elt .u32 5 3) (.elt .u32 935 3))
 (.lett 3625 (.int .u32) (.bin .add .u32 (.elt .u32 5 4) (.elt .u32 935 4))
 (.lett 4201 (.int .u32) (.bin .add .u32 (.elt .u32 5 5) (.elt .u32 935 5))
 (.lett 4777 (.int .u32) (.bin .add .u32 (.elt .u32 5 6) (.elt .u32 935 6))
 (.lett 5353 (.int .u32) (.bin .add .u32 (.elt .u32 5 7) (.elt .u32 935 7))
 (.lett 5545 (.int .i64) (.bin .add .i64 (.var 4) (.lit 1))
 (.lett 5546 (.arr .u32 8) (.lapp (.lit 0) [.var 1321,.var 1897,.var 2473,.var 3049,.var 3625,.var 4201,.var 4777,.var 5353])
 (.lett 5547 (.arr .u8 64) (.lsub (.var 495) (.lit 0) (.lit 64))
 (.back 0 [.var 5545,.var 5546,.var 5547,.var 542,.var 8]))))))))))))))))))))
 (.lett 545 (.int .i64) (.bin .add .i64 (.var 4) (.lit 1))
 (.lett 546 (.arr .u32 8) (.lsub (.var 5) (.lit 0) (.lit 8))
 (.lett 547 (.arr .u8 64) (.lsub (.var 495) (.lit 0) (.lit 64))
 (.back 0 [.var 545,.var 546,.var 547,.var 542,.var 8])))))))))))))))))))))
(.lett 10 .bit (.not (.var 8))
(.split 10
 (.lett 11 (.arr .u8 32) (.lapp (.lit 0) [.lit 0,.lit 0,.lit 0,.lit 0,.lit 0,.lit 0,.lit 0,.lit 0,.lit 0,.lit 0,.lit 0,.lit 0,.lit 0,.lit 0,.lit 0,.lit 0,.lit 0,.lit 0,.lit 0,.lit 0,.lit 0,.lit 0,.lit 0,.lit 0,.lit 0,.lit 0,.lit 0,.lit 0,.lit 0,.lit 0,.lit 0,.lit 0])
 (.ret [.var 11]))
 (.lett 347 (.int .i64) (.bin .rem .i64 (.var 7) (.lit 64))
 (.lett 395 .bit (.cmp .leq (.lit 0) (.var 347))
 (.lett 396 .bit (.cmp .leq (.var 347) (.lit 64))
 (.nz (.var 395)
 (.nz (.var 396)
 (.lett 443 (.lst (.int .u8)) (.lapp (.lit 0) [(.elt .u8 6 0),(.elt .u8 6 1),(.elt .u8 6 2),(.elt .u8 6 3),(.elt .u8 6 4),(.elt .u8 6 5),(.elt .u8 6 6),(.elt .u8 6 7),(.elt .u8 6 8),(.elt .u8 6 9),(.elt .u8 6 10),(.elt .u8 6 11),(.elt .u8 6 12),(.elt .u8 6 13),(.elt .u8 6 14),(.elt .u8 6 15),(.elt .u8 6 16),(.elt .u8 6 17),(.elt .u8 6 18),(.elt .u8 6 19),(.elt .u8 6 20),(.elt .u8 6 21),(.elt .u8 6 22),(.elt .u8 6 23),(.elt .u8 6 24),(.elt .u8 6 25),(.elt .u8 6 26),(.elt .u8 6 27),(.elt .u8 6 28),(.elt .u8 6 29),(.elt .u8 6 30),(.elt .u8 6 31),(.elt .u8 6 32),(.elt .u8 6 33),(.elt .u8 6 34),(.elt .u8 6 35),(.elt .u8 6 36),(.elt .u8 6 37),(.elt .u8 6 38),(.elt .u8 6 39),(.elt .u8 6 40),(.elt .u8 6 41),(.elt .u8 6 42),(.elt .u8 6 43),(.elt .u8 6 44),(.elt .u8 6 45),(.elt .u8 6 46),(.elt .u8 6 47),(.elt .u8 6 48),(.elt .u8 6 49),(.elt .u8 6 50),(.elt .u8 6 51),(.elt .u8 6 52),(.elt .u8 6 53),(.elt .u8 6 54),(.elt .u8 6 55),(.elt .u8 6 56),(.elt .u8 6 57),(.elt .u8 6 58),(.elt .u8 6 59),(.elt .u8 6 60),(.elt .u8 6 61),(.elt .u8 6 62),(.elt .u8 6 63)])
 (.lett 444 (.lst (.int .u8)) (.lsub (.var 443) (.lit 0) (.var 347))
 (.lett 445 (.int .i64) (.llen (.lit 0))
 (.lett 446 .bit (.cmp .lss (.var 445) (.lit 2147483648))
 (.lett 447 (.int .i64) (.llen (.var 444))
 (.lett 448 .bit (.cmp .lss (.var 447) (.lit 2147483648))
 (.nz (.var 446)
 (.nz (.var 448)
 (.lett 449 (.lst (.int .u8)) (.lcat (.lit 0) (.var 444))
 (.lett 539 (.lst (.int .u8)) (.lapp (.lit 0) [.lit 128])
 (.lett 540 (.int .i64) (.llen (.var 449))
 (.lett 541 .bit (.cmp .lss (.var 540) (.lit 2147483648))
 (.lett 542 (.int .i64) (.llen (.var 539))
 (.lett 543 .bit (.cmp .lss (.var 542) (.lit 2147483648))
 (.nz (.var 541)
 (.nz (.var 543)
 (.lett 544 (.lst (.int .u8)) (.lcat (.var 449) (.var 539))
 (.loop [.var 544] [(.lst (.int .u8))] 635
 (.lett 636 (.int .i64) (.llen (.var 635))
 (.lett 637 (.int .i64) (.bin .rem .i64 (.var 636) (.lit 64))
 (.lett 638 .bit (.cmp .neq (.var 637) (.lit 56))
 (.split 638
 (.lett 639 (.int .i64) (.llen (.var 635))
 (.lett 640 .bit (.cmp .lss (.var 639) (.lit 4294967296))
 (.nz (.var 640)
 (.lett 641 (.lst (.int .u8)) (.lapp (.var 635) [.lit 0])
 (.back 1 [.var 641])))))
 (.lett 639 (.int .u64) (.conv .u64 (.var 7))
 (.lett 640 (.int .u64) (.bin .shl .u64 (.var 639) (.lit 3))
 (.lett 641 (.int .u64) (.bin .shr .u64 (.var 640) (.lit 56))
 (.lett 642 (.int .u8) (.conv .u8 (.var 641))
 (.lett 643 (.int .i64) (.llen (.var 635))
 (.lett 644 .bit (.cmp .lss (.var 643) (.lit 4294967296))
 (.nz (.var 644)
 (.lett 645 (.lst (.int .u8)) (.lapp (.var 635) [.var 642])
 (.lett 646 (.int .u64) (.conv .u64 (.var 7))
 (.lett 647 (.int .u64) (.bin .shl .u64 (.var 646) (.lit 3))
 (.lett 648 (.int .u64) (.bin .shr .u64 (.var 647) (.lit 48))
 (.lett 649 (.int .u8) (.conv .u8 (.var 648))
 (.lett 650 (.int .i64) (.llen (.var 645))
 (.lett 651 .bit (.cmp .lss (.var 650) (.lit 4294967296))
 (.nz (.var 651)
 (.lett 652 (.lst (.int .u8)) (.lapp (.var 645) [.var 649])
 (.lett 653 (.int .u64) (.conv .u64 (.var 7))
 (.lett 654 (.int .u64) (.bin .shl .u64 (.var 653) (.lit 3))
 (.lett 655 (.int .u64) (.bin .shr .u64 (.var 654) (.lit 40))
 (.lett 656 (.int .u8) (.conv .u8 (.var 655))
 (.lett 657 (.int .i64) (.llen (.var 652))
 (.lett 658 .bit (.cmp .lss (.var 657) (.lit 4294967296))
 (.nz (.var 658)
 (.lett 659 (.lst (.int .u8)) (.lapp (.var 652) [.var 656])
 (.lett 660 (.int .u64) (.conv .u64 (.var 7))
 (.lett 661 (.int .u64) (.bin .shl .u64 (.var 660) (.lit 3))
 (.lett 662 (.int .u64) (.bin .shr .u64 (.var 661) (.lit 32))
 (.lett 663 (.int .u8) (.conv .u8 (.var 662))
 (.lett 664 (.int .i64) (.llen (.var 659))
 (.lett 665 .bit (.cmp .lss (.var 664) (.lit 4294967296))
 (.nz (.var 665)
 (.lett 666 (.lst (.int .u8)) (.lapp (.var 659) [.var 663])
 (.lett 667 (.int .u64) (.conv .u64 (.var 7))
 (.lett 668 (.int .u64) (.bin .shl .u64 (.var 667) (.lit 3))
 (.lett 669 (.int .u64) (.bin .shr .u64 (.var 668) (.lit 24))
 (.lett 670 (.int .u8) (.conv .u8 (.var 669))
 (.lett 671 (.int .i64) (.llen (.var 666))
 (.lett 672 .bit (.cmp .lss (.var 671) (.lit 4294967296))
 (.nz (.var 672)
 (.lett 673 (.lst (.int .u8)) (.lapp (.var 666) [.var 670])
 (.lett 674 (.int .u64) (.conv .u64 (.var 7))
 (.lett 675 (.int .u64) (.bin .shl .u64 (.var 674) (.lit 3))
 (.lett 676 (.int .u64) (.bin .shr .u64 (.var 675) (.lit 16))
 (.lett 677 (.int .u8) (.conv .u8 (.var 676))
 (.lett 678 (.int .i64) (.llen (.var 673))
 (.lett 679 .bit (.cmp .lss (.var 678) (.lit 4294967296))
 (.nz (.var 679)
 (.lett 680 (.lst (.int .u8)) (.lapp (.var 673) [.var 677])
 (.lett 681 (.int .u64) (.conv .u64 (.var 7))
 (.lett 682 (.int .u64) (.bin .shl .u64 (.var 681) (.lit 3))
 (.lett 683 (.int .u64) (.bin .shr .u64 (.var 682) (.lit 8))
 (.lett 684 (.int .u8) (.conv .u8 (.var 683))
 (.lett 685 (.int .i64) (.llen (.var 680))
 (.lett 686 .bit (.cmp .lss (.var 685) (.lit 4294967296))
 (.nz (.var 686)
 (.lett 687 (.lst (.int .u8)) (.lapp (.var 680) [.var 684])
 (.lett 688 (.int .u64) (.conv .u64 (.var 7))
 (.lett 689 (.int .u64) (.bin .shl .u64 (.var 688) (.lit 3))
 (.lett 690 (.int .u64) (.bin .shr .u64 (.var 689) (.lit 0))
 (.lett 691 (.int .u8) (.conv .u8 (.var 690))
 (.lett 692 (.int .i64) (.llen (.var 687))
 (.lett 693 .bit (.cmp .lss (.var 692) (.lit 4294967296))
 (.nz (.var 693)
 (.lett 694 (.lst (.int .u8)) (.lapp (.var 687) [.var 691])
 (.lett 695 (.int .i64) (.llen (.var 694))
 (.lett 696 (.arr .u32 8) (.lsub (.var 5) (.lit 0) (.lit 8))
 (.loop [.lit 0,.var 696] [(.int .i64),(.arr .u32 8)] 697
 (.lett 699 (.int .i64) (.bin .sub .i64 (.var 695) (.var 697))
 (.lett 700 .bit (.cmp .gtr (.var 699) (.lit 0))
 (.split 700
 (.lett 701 (.int .i64) (.llen (.var 694))
 (.lett 702 (.int .i64) (.bin .sub .i64 (.var 701) (.var 697))
 (.lett 703 (.int .i64) (.bin .sub .i64 (.var 695) (.var 697))
 (.lett 704 .bit (.cmp .leq (.lit 0) (.lit 0))
 (.lett 705 .bit (.cmp .leq (.lit 0) (.lit 64))
 (.lett 706 .bit (.cmp .leq (.lit 64) (.var 702))
 (.lett 707 (.int .i64) (.bin .add .i64 (.var 697) (.lit 0))
 (.lett 708 (.int .i64) (.bin .add .i64 (.var 697) (.lit 64))
 (.nz (.var 704)
 (.nz (.var 705)
 (.nz (.var 706)
 (.lett 709 (.arr .u32 64) (.lapp (.lit 0) [.lit 0,.lit 0,.lit 0,.lit 0,.lit 0,.lit 0,.lit 0,.lit 0,.lit 0,.lit 0,.lit 0,.lit 0,.lit 0,.lit 0,.lit 0,.lit 0,.lit 0,.lit 0,.lit 0,.lit 0,.lit 0,.lit 0,.lit 0,.lit 0,.lit 0,.lit 0,.lit 0,.lit 0,.lit 0,.lit 0,.lit 0,.lit 0,.lit 0,.lit 0,.lit 0,.lit 0,.lit 0,.lit 0,.lit 0,.lit 0,.lit 0,.lit 0,.lit 0,.lit 0,.lit 0,.lit 0,.lit 0,.lit 0,.lit 0,.lit 0,.lit 0,.lit 0,.lit 0,.lit 0,.lit 0,.lit 0,.lit 0,.lit 0,.lit 0,.lit 0,.lit 0,.lit 0,.lit 0,.lit 0])
 (.loop [.lit 0,.var 709] [(.int .i64),(.arr .u32 64)] 710
 (.lett 712 .bit (.cmp .lss (.var 710) (.lit 64))
 (.split 712
 (.lett 713 .bit (.cmp .lss (.var 710) (.lit 16))
 (.split 713
 (.lett 858 (.int .i64) (.bin .mul .i64 (.lit 4) (.var 710))
 (.lett 906 (.int .i64) (.bin .sub .i64 (.var 708) (.var 707))
 (.lett 907 .bit (.cmp .leq (.lit 0) (.var 858))
 (.lett 908 .bit (.cmp .lss (.var 858) (.var 906))
 (.lett 909 (.int .i64) (.bin .add .i64 (.var 707) (.var 858))
 (.nz (.var 907)
 (.nz (.var 908)
 (.lett 954 (.int .u8) (.lget (.var 694) (.var 909))
 (.lett 1050 (.int .u32) (.bin .shl .u32 (.var 954) (.lit 24))
 (.lett 1194 (.int .i64) (.bin .mul .i64 (.lit 4) (.var 710))
 (.lett 1242 (.int .i64) (.bin .add .i64 (.var 1194) (.lit 1))
 (.lett 1290 (.int .i64) (.bin .sub .i64 (.var 708) (.var 707))
 (.lett 1291 .bit (.cmp .leq (.lit 0) (.var 1242))
 (.lett 1292 .bit (.cmp .lss (.var 1242) (.var 1290))
 (.lett 1293 (.int .i64) (.bin .add .i64 (.var 707) (.var 1242))
 (.nz (.var 1291)
 (.nz (.var 1292)
 (.lett 1338 (.int .u8) (.lget (.var 694) (.var 1293))
 (.lett 1434 (.int .u32) (.bin .shl .u32 (.var 1338) (.lit 16))
 (.lett 1482 (.int .u32) (.bin .or .u32 (.var 1050) (.var 1434))
 (.lett 1626 (.int .i64) (.bin .mul .i64 (.lit 4) (.var 710))
 (.lett 1674 (.int .i64) (.bin .add .i64 (.var 1626) (.lit 2))
 (.lett 1722 (.int .i64) (.bin .sub .i64 (.var 708) (.var 707))
 (.lett 1723 .bit (.cmp .leq (.lit 0) (.var 1674))
 (.lett 1724 .bit (.cmp .lss (.var 1674) (.var 1722))
 (.lett 1725 (.int .i64) (.bin .add .i64 (.var 707) (.var 1674))
 (.nz (.var 1723)
 (.nz (.var 1724)
 (.lett 1770 (.int .u8) (.lget (.var 694) (.var 1725))
 (.lett 1866 (.int .u32) (.bin .shl .u32 (.var 1770) (.lit 8))
 (.lett 1914 (.int .u32) (.bin .or .u32 (.var 1482) (.var 1866))
 (.lett 2058 (.int .i64) (.bin .mul .i64 (.lit 4) (.var 710))
 (.lett 2106 (.int .i64) (.bin .add .i64 (.var 2058) (.lit 3))
 (.lett 2154 (.int .i64) (.bin .sub .i64 (.var 708) (.var 707))
 (.lett 2155 .bit (.cmp .leq (.lit 0) (.var 2106))
 (.lett 2156 .bit (.cmp .lss (.var 2106) (.var 2154))
 (.lett 2157 (.int .i64) (.bin .add .i64 (.var 707) (.var 2106))
 (.nz (.var 2155)
 (.nz (.var 2156)
 (.lett 2202 (.int .u8) (.lget (.var 694) (.var 2157))
 (.lett 2298 (.int .u32) (.bin .or .u32 (.var 1914) (.var 2202))
 (.lett 2346 .bit (.cmp .leq (.lit 0) (.var 710))
 (.lett 2347 .bit (.cmp .lss (.var 710) (.lit 64))
 (.nz (.var 2346)
 (.nz (.var 2347)
 (.lett 2394 (.arr .u32 64) (.lsub (.var 711) (.lit 0) (.lit 64))
 (.lett 2395 (.arr .u32 64) (.lput (.var 2394) (.var 710) (.var 2298))
 (.lett 2442 (.int .i64) (.bin .add .i64 (.var 710) (.lit 1))
 (.lett 2443 (.arr .u32 64) (.lsub (.var 2395) (.lit 0) (.lit 64))
 (.back 3 [.var 2442,.var 2443]))))))))))))))))))))))))))))))))))))))))))))))))))
 (.lett 762 (.int .i64) (.bin .sub .i64 (.var 710) (.lit 15))
 (.lett 810 .bit (.cmp .leq (.lit 0) (.var 762))
 (.lett 811 .bit (.cmp .lss (.var 762) (.lit 64))
 (.nz (.var 810)
 (.nz (.var 811)
 (.lett 858 (.int .u32) (.lget (.var 711) (.var 762))
 (.lett 954 (.int .i64) (.bin .sub .i64 (.var 710) (.lit 2))
 (.lett 1002 .bit (.cmp .leq (.lit 0) (.var 954))
 (.lett 1003 .bit (.cmp .lss (.var 954) (.lit 64))
 (.nz (.var 1002)
 (.nz (.var 1003)
 (.lett 1050 (.int .u32) (.lget (.var 711) (.var 954))
 (.req 0 [.var 1050,.lit 17]
 (.lett 1290 (.int .u32) (.app 0 0 [.var 1050,.lit 17])
 (.req 0 [.var 1050,.lit 19]
 (.lett 1386 (.int .u32) (.app 0 0 [.var 1050,.lit 19])
 (.lett 1434 (.int .u32) (.bin .xor .u32 (.var 1290) (.var 1386))
 (.lett 1530 (.int .u32) (.bin .shr .u32 (.var 1050) (.lit 10))
 (.lett 1578 (.int .u32) (.bin .xor .u32 (.var 1434) (.var 1530))
 (.lett 1674 (.int .i64) (.bin .sub .i64 (.var 710) (.lit 7))
 (.lett 1722 .bit (.cmp .leq (.lit 0) (.var 1674))
 (.lett 1723 .bit (.cmp .lss (.var 1674) (.lit 64))
 (.nz (.var 1722)
 (.nz (.var 1723)
 (.lett 1770 (.int .u32) (.lget (.var 711) (.var 1674))
 (.lett 1818 (.int .u32) (.bin .add .u32 (.var 1578) (.var 1770))
 (.req 0 [.var 858,.lit 7]
 (.lett 1914 (.int .u32) (.app 0 0 [.var 858,.lit 7])
 (.req 0 [.var 858,.lit 18]
 (.lett 2010 (.int .u32) (.app 0 0 [.var 858,.lit 18])
 (.lett 2058 (.int .u32) (.bin .xor .u32 (.var 1914) (.var 2010))
 (.lett 2154 (.int .u32) (.bin .shr .u32 (.var 858) (.lit 3))
 (.lett 2202 (.int .u32) (.bin .xor .u32 (.var 2058) (.var 2154))
 (.lett 2250 (.int .u32) (.bin .add .u32 (.var 1818) (.var 2202))
 (.lett 2346 (.int .i64) (.bin .sub .i64 (.var 710) (.lit 16))
 (.lett 2394 .bit (.cmp .leq (.lit 0) (.var 2346))
 (.lett 2395 .bit (.cmp .lss (.var 2346) (.lit 64))
 (.nz (.var 2394)
 (.nz (.var 2395)
 (.lett 2442 (.int .u32) (.lget (.var 711) (.var 2346))
 (.lett 2490 (.int .u32) (.bin .add .u32 (.var 2250) (.var 2442))
 (.lett 2538 .bit (.cmp .leq (.lit 0) (.var 710))
 (.lett 2539 .bit (.cmp .lss (.var 710) (.lit 64))
 (.nz (.var 2538)
 (.nz (.var 2539)
 (.lett 2586 (.arr .u32 64) (.lsub (.var 711) (.lit 0) (.lit 64))
 (.lett 2587 (.arr .u32 64) (.lput (.var 2586) (.var 710) (.var 2490))
 (.lett 2634 (.int .i64) (.bin .add .i64 (.var 710) (.lit 1))
 (.lett 2635 (.arr .u32 64) (.lsub (.var 2587) (.lit 0) (.lit 64))
 (.back 3 [.var 2634,.var 2635]))))))))))))))))))))))))))))))))))))))))))))))))))))
 (.lett 713 (.arr .u32 8) (.lsub (.var 698) (.lit 0) (.lit 8))
 (.loop [.lit 0,.var 713] [(.int .i64),(.arr .u32 8)] 714
 (.lett 716 .bit (.cmp .lss (.var 714) (.lit 64))
 (.split 716
 (.req 0 [(.elt .u32 715 4),.lit 6]
 (.lett 1149 (.int .u32) (.app 0 0 [(.elt .u32 715 4),.lit 6])
 (.req 0 [(.elt .u32 715 4),.lit 11]
 (.lett 1245 (.int .u32) (.app 0 0 [(.elt .u32 715 4),.lit 11])
 (.lett 1293 (.int .u32) (.bin .xor .u32 (.var 1149) (.var 1245))
 (.req 0 [(.elt .u32 715 4),.lit 25]
 (.lett 1389 (.int .u32) (.app 0 0 [(.elt .u32 715 4),.lit 25])
 (.lett 1437 (.int .u32) (.bin .xor .u32 (.var 1293) (.var 1389))
 (.lett 1485 (.int .u32) (.bin .add .u32 (.elt .u32 715 7) (.var 1437))
 (.lett 1677 (.int .u32) (.bin .and .u32 (.elt .u32 715 4) (.elt .u32 715 5))
 (.lett 1773 (.int .u32) (.bin .xor .u32 (.lit 4294967295) (.elt .u32 715 4))
 (.lett 1917 (.int .u32) (.bin .and .u32 (.var 1773) (.elt .u32 715 6))
 (.lett 1965 (.int .u32) (.bin .xor .u32 (.var 1677) (.var 1917))
 (.lett 2013 (.int .u32) (.bin .add .u32 (.var 1485) (.var 1965))
 (.lett 2109 .bit (.cmp .leq (.lit 0) (.var 714))
 (.lett 2110 .bit (.cmp .lss (.var 714) (.lit 64))
 (.nz (.var 2109)
 (.nz (.var 2110)
 (.lett 2157 (.int .u32) (.sel (.var 714) [.lit 1116352408,.lit 1899447441,.lit 3049323471,.lit 3921009573,.lit 961987163,.lit 1508970993,.lit 2453635748,.lit 2870763221,.lit 3624381080,.lit 310598401,.lit 607225278,.lit 1426881987,.lit 1925078388,.lit 2162078206,.lit 2614888103,.lit 3248222580,.lit 3835390401,.lit 4022224774,.lit 264347078,.lit 604807628,.lit 770255983,.lit 1249150122,.lit 1555081692,.lit 1996064986,.lit 2554220882,.lit 2821834349,.lit 2952996808,.lit 3210313671,.lit 3336571891,.lit 3584528711,.lit 113926993,.lit 338241895,.lit 666307205,.lit 773529912,.lit 1294757372,.lit 1396182291,.lit 1695183700,.lit 1986661051,.lit 2177026350,.lit 2456956037,.lit 2730485921,.lit 2820302411,.lit 3259730800,.lit 3345764771,.lit 3516065817,.lit 3600352804,.lit 4094571909,.lit 275423344,.lit 430227734,.lit 506948616,.lit 659060556,.lit 883997877,.lit 958139571,.lit 1322822218,.lit 1537002063,.lit 1747873779,.lit 1955562222,.lit 2024104815,.lit 2227730452,.lit 2361852424,.lit 2428436474,.lit 2756734187,.lit 3204031479,.lit 3329325298])
 (.lett 2205 (.int .u32) (.bin .add .u32 (.var 2013) (.var 2157))
 (.lett 2301 .bit (.cmp .leq (.lit 0) (.var 714))
 (.lett 2302 .bit (.cmp .lss (.var 714) (.lit 64))
 (.nz (.var 2301)
 (.nz (.var 2302)
 (.lett 2349 (.int .u32) (.lget (.var 711) (.var 714))
 (.lett 2397 (.int .u32) (.bin .add .u32 (.var 2205) (.var 2349))
 (.req 0 [(.elt .u32 715 0),.lit 2]
 (.lett 2541 (.int .u32) (.app 0 0 [(.elt .u32 715 0),.lit 2])
 (.req 0 [(.elt .u32 715 0),.lit 13]
 (.lett 2637 (.int .u32) (.app 0 0 [(.elt .u32 715 0),.lit 13])
 (.lett 2685 (.int .u32) (.bin .xor .u32 (.var 2541) (.var 2637))
 (.req 0 [(.elt .u32 715 0),.lit 22]
 (.lett 2781 (.int .u32) (.app 0 0 [(.elt .u32 715 0),.lit 22])
 (.lett 2829 (.int .u32) (.bin .xor .u32 (.var 2685) (.var 2781))
 (.lett 3021 (.int .u32) (.bin .and .u32 (.elt .u32 715 0) (.elt .u32 715 1))
 (.lett 3213 (.int .u32) (.bin .and .u32 (.elt .u32 715 0) (.elt .u32 715 2))
 (.lett 3261 (.int .u32) (.bin .xor .u32 (.var 3021) (.var 3213))
 (.lett 3501 (.int .u32) (.bin .and .u32 (.elt .u32 715 1) (.elt .u32 715 2))
 (.lett 3549 (.int .u32) (.bin .xor .u32 (.var 3261) (.var 3501))
 (.lett 3597 (.int .u32) (.bin .add .u32 (.var 2829) (.var 3549))
 (.lett 3693 (.int .u32) (.bin .add .u32 (.var 2397) (.var 3597))
 (.lett 3694 (.int .u32) (.bin .add .u32 (.elt .u32 715 3) (.var 2397))
 (.lett 3695 (.int .i64) (.bin .add .i64 (.var 714) (.lit 1))
 (.lett 3696 (.arr .u32 8) (.lapp (.lit 0) [.var 3693,(.elt .u32 715 0),(.elt .u32 715 1),(.elt .u32 715 2),.var 3694,(.elt .u32 715 4),(.elt .u32 715 5),(.elt .u32 715 6)])
 (.back 4 [.var 3695,.var 3696])))))))))))))))))))))))))))))))))))))))))))))
 (.lett 1101 (.int .u32) (.bin .add .u32 (.elt .u32 698 0) (.elt .u32 715 0))
 (.lett 1677 (.int .u32) (.bin .add .u32 (.elt .u32 698 1) (.elt .u32 715 1))
 (.lett 2253 (.int .u32) (.bin .add .u32 (.elt .u32 698 2) (.elt .u32 715 2))
 (.lett 2829 (.int .u32) (.bin .add .u32 (.elt .u32 698 3) (.elt .u32 715 3))
 (.lett 3405 (.int .u32) (.bin .add .u32 (.elt .u32 698 4) (.elt .u32 715 4))
 (.lett 3981 (.int .u32) (.bin .add .u32 (.elt .u32 698 5) (.elt .u32 715 5))
 (.lett 4557 (.int .u32) (.bin .add .u32 (.elt .u32 698 6) (.elt .u32 715 6))
 (.lett 5133 (.int .u32) (.bin .add .u32 (.elt .u32 698 7) (.elt .u32 715 7))
 (.lett 5325 (.int .i64) (.llen (.var 694))
 (.lett 5326 (.int .i64) (.bin .sub .i64 (.var 5325) (.var 697))
 (.lett 5327 (.int .i64) (.bin .sub .i64 (.var 695) (.var 697))
 (.lett 5328 .bit (.cmp .leq (.lit 0) (.lit 64))
 (.lett 5329 .bit (.cmp .leq (.lit 64) (.var 5327))
 (.lett 5330 .bit (.cmp .leq (.var 5327) (.var 5326))
 (.lett 5331 (.int .i64) (.bin .add .i64 (.var 697) (.lit 64))
 (.lett 5332 (.int .i64) (.bin .add .i64 (.var 697) (.var 5327))
 (.nz (.var 5328)
 (.nz (.var 5329)
 (.nz (.var 5330)
 (.lett 5333 (.arr .u32 8) (.lapp (.lit 0) [.var 1101,.var 1677,.var 2253,.var 2829,.var 3405,.var 3981,.var 4557,.var 5133])
 (.back 2 [.var 5331,.var 5333]))))))))))))))))))))))))))))))))))))))))
 (.lett 701 (.int .u32) (.bin .shr .u32 (.elt .u32 698 0) (.lit 24))
 (.lett 702 (.int .u8) (.conv .u8 (.var 701))
 (.lett 703 (.int .u32) (.bin .shr .u32 (.elt .u32 698 0) (.lit 16))
 (.lett 704 (.int .u8) (.conv .u8 (.var 703))
 (.lett 705 (.int .u32) (.bin .shr .u32 (.elt .u32 698 0) (.lit 8))
 (.lett 706 (.int .u8) (.conv .u8 (.var 705))
 (.lett 707 (.int .u8) (.conv .u8 (.elt .u32 698 0))
 (.lett 708 (.int .u32) (.bin .shr .u32 (.elt .u32 698 1) (.lit 24))
 (.lett 709 (.int .u8) (.conv .u8 (.var 708))
 (.lett 710 (.int .u32) (.bin .shr .u32 (.elt .u32 698 1) (.lit 16))
 (.lett 711 (.int .u8) (.conv .u8 (.var 710))
 (.lett 712 (.int .u32) (.bin .shr .u32 (.elt .u32 698 1) (.lit 8))
 (.lett 713 (.int .u8) (.conv .u8 (.var 712))
 (.lett 714 (.int .u8) (.conv .u8 (.elt .u32 698 1))
 (.lett 715 (.int .u32) (.bin .shr .u32 (.elt .u32 698 2) (.lit 24))
 (.lett 716 (.int .u8) (.conv .u8 (.var 715))
 (.lett 717 (.int .u32) (.bin .shr .u32 (.elt .u32 698 2) (.lit 16))
 (.lett 718 (.int .u8) (.conv .u8 (.var 717))
 (.lett 719 (.int .u32) (.bin .shr .u32 (.elt .u32 698 2) (.lit 8))
 (.lett 720 (.int .u8) (.conv .u8 (.var 719))
 (.lett 721 (.int .u8) (.conv .u8 (.elt .u32 698 2))
 (.lett 722 (.int .u32) (.bin .shr .u32 (.elt .u32 698 3) (.lit 24))
 (.lett 723 (.int .u8) (.conv .u8 (.var 722))
 (.lett 724 (.int .u32) (.bin .shr .u32 (.elt .u32 698 3) (.lit 16))
 (.lett 725 (.int .u8) (.conv .u8 (.var 724))
 (.lett 726 (.int .u32) (.bin .shr .u32 (.elt .u32 698 3) (.lit 8))
 (.lett 727 (.int .u8) (.conv .u8 (.var 726))
 (.lett 728 (.int .u8) (.conv .u8 (.elt .u32 698 3))
 (.lett 729 (.int .u32) (.bin .shr .u32 (.elt .u32 698 4) (.lit 24))
 (.lett 730 (.int .u8) (.conv .u8 (.var 729))
 (.lett 731 (.int .u32) (.bin .shr .u32 (.elt .u32 698 4) (.lit 16))
 (.lett 732 (.int .u8) (.conv .u8 (.var 731))
 (.lett 733 (.int .u32) (.bin .shr .u32 (.elt .u32 698 4) (.lit 8))
 (.lett 734 (.int .u8) (.conv .u8 (.var 733))
 (.lett 735 (.int .u8) (.conv .u8 (.elt .u32 698 4))
 (.lett 736 (.int .u32) (.bin .shr .u32 (.elt .u32 698 5) (.lit 24))
 (.lett 737 (.int .u8) (.conv .u8 (.var 736))
 (.lett 738 (.int .u32) (.bin .shr .u32 (.elt .u32 698 5) (.lit 16))
 (.lett 739 (.int .u8) (.conv .u8 (.var 738))
 (.lett 740 (.int .u32) (.bin .shr .u32 (.elt .u32 698 5) (.lit 8))
 (.lett 741 (.int .u8) (.conv .u8 (.var 740))
 (.lett 742 (.int .u8) (.conv .u8 (.elt .u32 698 5))
 (.lett 743 (.int .u32) (.bin .shr .u32 (.elt .u32 698 6) (.lit 24))
 (.lett 744 (.int .u8) (.conv .u8 (.var 743))
 (.lett 745 (.int .u32) (.bin .shr .u32 (.elt .u32 698 6) (.lit 16))
 (.lett 746 (.int .u8) (.conv .u8 (.var 745))
 (.lett 747 (.int .u32) (.bin .shr .u32 (.elt .u32 698 6) (.lit 8))
 (.lett 748 (.int .u8) (.conv .u8 (.var 747))
 (.lett 749 (.int .u8) (.conv .u8 (.elt .u32 698 6))
 (.lett 750 (.int .u32) (.bin .shr .u32 (.elt .u32 698 7) (.lit 24))
 (.lett 751 (.int .u8) (.conv .u8 (.var 750))
 (.lett 752 (.int .u32) (.bin .shr .u32 (.elt .u32 698 7) (.lit 16))
 (.lett 753 (.int .u8) (.conv .u8 (.var 752))
 (.lett 754 (.int .u32) (.bin .shr .u32 (.elt .u32 698 7) (.lit 8))
 (.lett 755 (.int .u8) (.conv .u8 (.var 754))
 (.lett 756 (.int .u8) (.conv .u8 (.elt .u32 698 7))
 (.lett 757 (.arr .u8 32) (.lapp (.lit 0) [.var 702,.var 704,.var 706,.var 707,.var 709,.var 711,.var 713,.var 714,.var 716,.var 718,.var 720,.var 721,.var 723,.var 725,.var 727,.var 728,.var 730,.var 732,.var 734,.var 735,.var 737,.var 739,.var 741,.var 742,.var 744,.var 746,.var 748,.var 749,.var 751,.var 753,.var 755,.var 756])
 (.ret [.var 757])))))))))))))))))))))))))))))))))))))))))))))))))))))))))))))))))))))))))))))))))))))))))))))))))))))))))))))))))))))))))))))))))))))))))))))))))))))))))))))))))))
def tM:List Int:=[0,0,0,1,109]
def QB (g:Int) (t:List Int):Prop:=g=3/\t=tM
theorem dM0:sumAt tDSum (3::0::tM)=true:=by kernel_rfl
theorem dM1:sumAt tDSum (3::1::tM)=true:=by kernel_rfl
theorem dsum_B:∀ g x,QB g x->sumAt tDSum (g::0::x)=true/\sumAt tDSum (g::1::x)=true:=fun g x h=>by
 obtain ⟨rfl,rfl⟩:=h
 exact ⟨dM0,dM1⟩
def pwF (p a n:Int):Int:=((Np.pm p.toNat 64 a.toNat n.toNat:Nat):Int)
theorem pwM_F {p a n:Int} (h:n.toNat<2^64):pwM p a n=pwF p a n:=by unfold pwM pwF;rw [Np.pm_ok _ _ _ _ h]
def slopeF (p x y x' y':Int):Int×Int :=
 if x≠x' then ((y'-y)%p*pwF p ((x'-x)%p) (p-2)%p,1)
 else if y≠y'∨y=0 then (0,0)
 else ((((x*x%p+x*x%p)%p+x*x%p)%p+1)%p*pwF p ((y+y)%p) (p-2)%p,1)
theorem slopeF_eq {p x y x' y':Int} (h:(p-2).toNat<2^64):slopeP p x y x' y'=slopeF p x y x' y':=by
 unfold slopeP slopeF invP
 rw [pwM_F h,pwM_F h]
def sumF (p:Int) (a b:Pt):Pt :=
 if a.z≠0 then b else if b.z≠0 then a else
 let s:=slopeF p a.x a.y b.x b.y
 if s.2=0 then ⟨0,0,1⟩ else
 let x:=((s.1*s.1%p-a.x)%p-b.x)%p
 ⟨x,(s.1*((a.x-x)%p)%p-a.y)%p,0⟩
theorem sumF_eq {p:Int} {a b:Pt} (h:(p-2).toNat<2^64):sumP p a b=sumF p a b:=by
 unfold sumP sumF
 rw [slopeF_eq h]
def mulF (p:Int) (a:Pt):Nat->Nat->Pt
 | 0,_=>⟨0,0,1⟩
 | k+1,n=>if n=0 then ⟨0,0,1⟩ else
  let h:=mulF p a k (n/2)
  let d:=sumF p h h
  if n%2=1 then sumF p d a else d
theorem mulF_eq {p:Int} {a:Pt} (h:(p-2).toNat<2^64):∀ k n,mulP p a k n=mulF p a k n
 | 0,_=>rfl
 | k+1,n=>by
  unfold mulP mulF
  rw [mulF_eq h k (n/2)]
  simp only [sumF_eq h]
theorem nearG_lit {h:Int->Prop} {p x:Int} {k:Nat} (h1:h ((x+k)%p)) (h2:∀ m,m<k->¬ h ((x+m)%p)):nearG h p x=k:=leastN_eq h1 h2
theorem rootL_F {p x:Int} (h:((p+1)/4).toNat<2^64):rootL p x=pwF p (rightP p x) ((p+1)/4):=pwM_F h
def hitBL (p x:Int):Bool:=pwF p (rightP p x) ((p+1)/4)*pwF p (rightP p x) ((p+1)/4)%p==rightP p x
theorem hitL_F {p x:Int} (h:((p+1)/4).toNat<2^64):hitL p x↔hitBL p x=true:=by
 unfold hitL hitBL
 rw [rootL_F h,beq_iff_eq]
theorem nearL_lit {p x:Int} {k:Nat} (h:((p+1)/4).toNat<2^64) (h1:hitBL p ((x+k)%p)=true) (h2:(List.range k).all (fun m=>!hitBL p ((x+m)%p))=true):nearN p x=k :=
 nearG_lit ((hitL_F h).2 h1) fun m hm hh=>by
  have:=List.all_eq_true.1 h2 m (List.mem_range.2 hm)
  rw [(hitL_F h).1 hh] at this;cases this
theorem all_M:allV 3 tM=[163,107,206,185,82,205,197,110,174,232,165,249,99,208,39,30,7,145,170,113,207,156,29,187,124,35,230,13,238,227,70,36,162,177,210,82,37,45,220,48,136,113,247,26,35,216,208,59,85,6,204,100,48,56,100,245,154,27,174,166,90,63,100,69]:=by decide +kernel
def w_M:Int:=8559058712148211528317751477599697646356738575527173325007405832663047642247635474517015402137754381616228962006020521237374759950569706523818283465925701
theorem wide_M (n:Int):wideV n 3 tM=w_M%n:=by unfold wideV;rw [all_M];congr 1
theorem l1_M_near:nearN 786251 (wideV 786251 3 tM)=0:=by rw [wide_M];exact nearL_lit (by decide) (by decide +kernel) (by decide +kernel)
theorem l1_M_eq:hashL 1 3 tM=⟨315666,524223,0⟩:=by
 show mulP 786251 (nearP 786251 (wideV 786251 3 tM)) 64 12=_
 unfold nearP
 rw [l1_M_near,wide_M,mulF_eq (by decide),rootL_F (by decide)]
 decide +kernel
abbrev Tb:Type:=List (List W×List W)
open Classical in
noncomputable def lookT:Tb->List Int->List Int
 | [],_=>[]
 | p::r,xs=>if xs=p.1.map W.toI then p.2.map W.toI else lookT r xs
noncomputable def kTb (f:FuncId) (ins:List Sh) (outs:List Oh) (tab:Tb):K:={fn:=f,ext:=false,ins:=ins,outs:=outs,pre:=fun xs=>∃ p∈tab,xs=p.1.map W.toI,sem:=lookT tab }
structure Or1 where
 X:K
 f:List W->Option (List W)
 ok:∀ aq os,f aq=some os->X.pre (aq.map W.toI)/\X.sem (aq.map W.toI)=os.map W.toI
def orL (l:List Or1):Oracle:=fun g ws=>match l[g]? with | some o=>o.f ws | none=>none
theorem orL_ok (l:List Or1):OrOk (l.map (·.X)) (orL l):=fun g aq os h=>by
 unfold orL at h
 cases hl:l[g]? with
 | none=>rw [hl] at h;cases h
 | some o =>
  rw [hl] at h
  exact ⟨o.X,by rw [List.getElem?_map,hl];rfl,o.ok aq os h⟩
def findT:Tb->List W->Option (List W)
 | [],_=>none
 | p::r,ws=>if wsEq p.1 ws then some p.2 else findT r ws
def W.ne (a b:W):Bool:=match a,b with
 | .wi x,.wi y=>x != y
 | .wl x,.wl y=>!intsEq x y
 | _,_=>false
def wsNe:List W->List W->Bool
 | a::aq,b::bs=>a.ne b || wsNe aq bs
 | [],_::_=>true
 | _::_,[]=>true
 | [],[]=>false
def tbOk:Tb->Bool
 | []=>true
 | p::r=>r.all (fun q=>wsNe p.1 q.1)&&tbOk r
theorem intsEq_refl:∀ l:List Int,intsEq l l=true
 | []=>rfl
 | a::l=>by simp [intsEq,intsEq_refl l]
theorem W.ne_ok {a b:W} (h:a.ne b=true):a.toI≠b.toI:=by
 cases a <;> cases b <;> simp only [W.ne,bne_iff_ne,Bool.not_eq_true',Bool.false_eq_true] at h
 ·exact h
 ·intro hc
  rename_i x y
  have:x=y:=by
   have h1:=congrArg dec hc
   simpa [W.toI,dec_enc] using h1
  rw [this,intsEq_refl] at h;cases h
theorem wsNe_ok:∀ {a b:List W},wsNe a b=true->a.map W.toI≠b.map W.toI
 | a::aq,b::bs,h=>by
  simp only [wsNe,Bool.or_eq_true] at h
  intro hc
  simp only [List.map_cons,List.cons.injEq] at hc
  rcases h with h | h
  ·exact W.ne_ok h hc.1
  ·exact wsNe_ok h hc.2
 | [],_::_,_=>by simp
 | _::_,[],_=>by simp
theorem lookT_of:∀ {tab:Tb},tbOk tab=true->∀ {p:List W×List W},p∈tab->lookT tab (p.1.map W.toI)=p.2.map W.toI
 | q::r,h,p,hp=>by
  simp only [tbOk,Bool.and_eq_true,List.all_eq_true] at h
  unfold lookT
  rcases List.mem_cons.1 hp with rfl | hp
  ·rw [if_pos rfl]
  ·rw [if_neg (fun hc=>wsNe_ok (h.1 p hp) hc.symm)]
   exact lookT_of h.2 hp
theorem findT_mem:∀ {tab:Tb} {ws os:List W},findT tab ws=some os->(ws,os)∈tab
 | p::r,ws,os,h=>by
  unfold findT at h
  split at h
  ·rename_i he
   cases h
   have:=wsEq_ok he
   subst this
   exact .head _
  ·exact .tail _ (findT_mem h)
noncomputable def orTb (f:FuncId) (ins:List Sh) (outs:List Oh) (tab:Tb) (h:tbOk tab=true):Or1 where
 X:=kTb f ins outs tab
 f:=findT tab
 ok:=fun aq os hf=>by
  have:=findT_mem hf
  exact ⟨⟨_,this,rfl⟩,lookT_of h this⟩
def envW:Nat->List W->List (Nat×W)
 | _,[]=>[]
 | n,w::ws=>(n,w)::envW (n+1) ws
def isDone (os:List W):Option Rs->Bool | some (.done ws)=>wsEq ws os | _=>false
def runs (fd:Oracle) (N:Nat) (t:Tree) (tab:Tb):Bool:=tab.all fun p=>isDone p.2 (t.cr fd N 0 (envW 0 p.1))
theorem envW_ag {e:Nat->Int}:∀ (ws:List W) (n:Nat),(∀ (j:Nat) w,ws[j]?=some w->e (n+j)=w.toI)->Ag (envW n ws) e
 | [],_,_=>fun p hp=>by cases hp
 | w::ws,n,h=>fun p hp=>by
  rcases List.mem_cons.1 hp with rfl | hp
  ·exact h 0 w rfl
  ·exact envW_ag ws (n+1) (fun j u hu=>by rw [show n+1+j=n+(j+1) by omega];exact h (j+1) u hu) p hp
theorem tb_says {l:List Or1} {N:Nat} {t:Tree} {tab:Tb} (hr:runs (orL l) N t tab=true) (ho:tbOk tab=true) (f:FuncId) (ins:List Sh) (outs:List Oh) {e:Nat->Int} {xs:List Int} (hx:∀ (j:Nat) x,xs[j]?=some x->e j=x) (hp:(kTb f ins outs tab).pre xs):t.says (l.map (·.X)) ⟨fun ys=>ys=(kTb f ins outs tab).sem xs,[]⟩ e:=by
 obtain ⟨p,mp,rfl⟩:=hp
 have h1:=List.all_eq_true.1 hr p mp
 obtain ⟨r,hrr⟩:∃ r,t.cr (orL l) N 0 (envW 0 p.1)=r:=⟨_,rfl⟩
 rw [hrr] at h1
 match r,h1 with
 | some (.done ws),h1 =>
  have hw:ws=p.2:=wsEq_ok h1
  refine cr_says (orL_ok l) t ⟨_,[]⟩ e (envW 0 p.1) (.done ws) hrr (envW_ag p.1 0 fun j w hj=>?_) ?_
  ·rw [Nat.zero_add];exact hx j _ (by rw [List.getElem?_map,hj];rfl)
  ·show ws.map W.toI=lookT tab (p.1.map W.toI)
   rw [hw,lookT_of ho mp]
theorem seq_get {e:Nat->Int}:∀ (n k j:Nat) (x:Int),(seqE e k n)[j]?=some x->e (k+j)=x
 | 0,_,_,_,h=>by cases h
 | n+1,k,0,x,h=>by cases h;rfl
 | n+1,k,j+1,x,h=>by rw [show k+(j+1)=k+1+j by omega];exact seq_get n (k+1) j x h
theorem tb_law {l:List Or1} {N:Nat} {t:Tree} {tab:Tb} (n:Nat) (hr:runs (orL l) N t tab=true) (ho:tbOk tab=true) (f:FuncId) (ins:List Sh) (outs:List Oh) {e:Nat->Int} (hp:(kTb f ins outs tab).pre (seqE e 0 n)):t.says (l.map (·.X)) ⟨fun ys=>ys=(kTb f ins outs tab).sem (seqE e 0 n),[]⟩ e :=
 tb_says hr ho f ins outs (fun j x hx=>by have:=seq_get n 0 j x hx;rwa [Nat.zero_add] at this) hp
theorem tab_ok {P:Program} {LA:List Ann} {gls:Gls} (hm:P.follows .mixedOrders=true) {f:FuncId} {ins:List Sh} {outs:List Oh} {tab:Tb} {l:List Or1} (hT:AllOk P (l.map (·.X)) gls) {fn:Func} (fuel:Nat) (hf:P.funcs[f]?=some fn) (hn:(fn.name == "runtime.NumGoroutine")=false) (hok:ins.all okSh=true)
  (hw:wfT (icount ins) (tree P (l.map (·.X)) LA fuel fn ins outs gls)=true) (N:Nat) (hr:runs (orL l) N (tree P (l.map (·.X)) LA fuel fn ins outs gls) tab=true) (ho:tbOk tab=true):(kTb f ins outs tab).ok P gls :=
 ctr_says (X:=kTb f ins outs tab) hm hT fuel hf hn rfl hok rfl hw fun e hk hp=>tb_law (icount ins) hr ho f ins outs hp
def orNever (g:FuncId) (ins:List Sh) (outs:List Oh):Or1:=⟨kNever g ins outs,fun _=>none,fun _ _ h=>by cases h⟩
def orLen64 (g:FuncId):Or1:=⟨kLen64 g,fun | [.wi a]=>some [.wi (blen a)] | _=>none,fun aq os h=>by
 split at h
 ·cases h;exact ⟨trivial,rfl⟩
 ·cases h⟩
def orOf (g:FuncId):Or1:=⟨kOf g,fun | [.wi a]=>some [.wi a] | _=>none,fun aq os h=>by
 split at h
 ·cases h;exact ⟨trivial,rfl⟩
 ·cases h⟩
def orWCmp (g:FuncId):Or1:=⟨kWCmp g,fun | [.wi a,.wi b]=>some [.wi (if a<b then -1 else if a=b then 0 else 1)] | _=>none,fun aq os h=>by
 split at h
 ·cases h;exact ⟨trivial,rfl⟩
 ·cases h⟩
def orOrder (g:FuncId):Or1:=⟨kOrder g,fun | [.wi s]=>if 0<=s/\s<=2 then some [.wi (rOf s)] else none | _=>none,fun aq os h=>by
 split at h
 ·split at h
  ·rename_i hs;cases h;exact ⟨hs,rfl⟩
  ·cases h
 ·cases h⟩
def orSOrder (g:FuncId):Or1:=⟨kSOrder g,fun | [.wi s]=>if 0<=s/\s<=2 then some [.wi (rOf s),.wi 0] else none | _=>none,fun aq os h=>by
 split at h
 ·split at h
  ·rename_i s hs;cases h;exact ⟨trivial,by show (if isS s then [rOf s,0] else [0,2])=_;rw [if_pos (show isS s from hs)];rfl⟩
  ·cases h
 ·cases h⟩
def orLOf (g:FuncId):Or1:=⟨kLOf g,fun | [.wi s]=>some ((cvL s).map .wi) | _=>none,fun aq os h=>by
 split at h
 ·cases h
  rename_i s
  refine ⟨trivial,?_⟩
  show cvL s=_
  rw [List.map_map]
  exact (List.map_id _).symm
 ·cases h⟩
def orLIn (g:FuncId):Or1:=⟨kLIn g,fun | [.wi p,.wi r,.wi _,.wi _,.wi _,.wi _,.wi x,.wi y,.wi z]=>if 3<=p/\p<4611686018427387904 then some [.wi (bi (inP p r x y z))] else none | _=>none,fun aq os h=>by
 split at h
 ·split at h
  ·rename_i hp;cases h;exact ⟨hp,rfl⟩
  ·cases h
 ·cases h⟩
def orLMul (g:FuncId):Or1:=⟨kLMul g,fun | [.wi p,.wi _,.wi _,.wi _,.wi _,.wi _,.wi a,.wi b]=>if 3<=p/\p<4611686018427387904 then some [.wi (a*b%p)] else none | _=>none,fun aq os h=>by
 split at h
 ·split at h
  ·rename_i hp;cases h;exact ⟨hp,rfl⟩
  ·cases h
 ·cases h⟩
def orLAdd (g:FuncId):Or1:=⟨kLAdd g,fun | [.wi p,.wi _,.wi _,.wi _,.wi _,.wi _,.wi a,.wi b]=>if (3<=p/\p<4611686018427387904)/\a<p/\b<p then some [.wi ((a+b)%p)] else none | _=>none,fun aq os h=>by
 split at h
 ·split at h
  ·rename_i hp;cases h;exact ⟨hp,rfl⟩
  ·cases h
 ·cases h⟩
def orLSub (g:FuncId):Or1:=⟨kLSub g,fun | [.wi p,.wi _,.wi _,.wi _,.wi _,.wi _,.wi a,.wi b]=>if (3<=p/\p<4611686018427387904)/\a<p/\b<p then some [.wi ((a-b)%p)] else none | _=>none,fun aq os h=>by
 split at h
 ·split at h
  ·rename_i hp;cases h;exact ⟨hp,rfl⟩
  ·cases h
 ·cases h⟩
def orLSlope (g:FuncId):Or1:=⟨kLSlope g,fun | [.wi p,.wi _,.wi _,.wi _,.wi _,.wi _,.wi x,.wi y,.wi _,.wi x',.wi y',.wi _]=>if (3<=p/\p<4611686018427387904)/\x<p/\y<p/\x'<p/\y'<p then some [.wi (slopeP p x y x' y').1,.wi (slopeP p x y x' y').2] else none | _=>none,fun aq os h=>by
 split at h
 ·split at h
  ·rename_i hp;cases h;exact ⟨hp,rfl⟩
  ·cases h
 ·cases h⟩
def orLSum (g:FuncId):Or1:=⟨kLSum g,fun | [.wi p,.wi _,.wi _,.wi _,.wi _,.wi _,.wi x,.wi y,.wi z,.wi x',.wi y',.wi z']=>if (3<=p/\p<4611686018427387904)/\x<p/\y<p/\x'<p/\y'<p then some ((sumP p ⟨x,y,z⟩ ⟨x',y',z'⟩).l.map .wi) else none | _=>none,fun aq os h=>by
 split at h
 ·split at h
  ·rename_i hp
   cases h
   refine ⟨hp,?_⟩
   rw [List.map_map]
   exact (List.map_id _).symm
  ·cases h
 ·cases h⟩
noncomputable def orLMul2 (g:FuncId):Or1:=⟨kLMul2 g,fun | [.wi s,.wi x,.wi y,.wi z,.wi n]=>if (s=1∨s=2)/\onP (pL s) x y z then some (((mulP (pL s) ⟨x,y,z⟩ 64 n.toNat).l++[0]).map .wi) else none | _=>none,fun aq os h=>by
 split at h
 ·split at h
  ·rename_i hp
   cases h
   refine ⟨hp,?_⟩
   rw [List.map_map]
   exact (List.map_id _).symm
  ·cases h
 ·cases h⟩
def hM:List Int:=[1,0,0,0,0,0,315666,524223,0]
noncomputable def kBHash (f:FuncId):K:={fn:=f,ext:=false,ins:=[iI,.lst (.int .u8)],outs:=[.agg lsSgL],pre:=fun | [s,x]=>s=1/\dec x=[109] | _=>False,sem:=fun _=>hM }
def tBHash:Tree:=(.lett 2 (.lst .byt) (.lapp (.lit 0) [.var 1])
(.req 0 [.var 0,.var 2]
(.lett 3 (.int .i64) (.app 0 0 [.var 0,.var 2])
(.lett 4 .num (.app 0 1 [.var 0,.var 2])
(.lett 5 .num (.app 0 2 [.var 0,.var 2])
(.lett 6 .num (.app 0 3 [.var 0,.var 2])
(.lett 7 .num (.app 0 4 [.var 0,.var 2])
(.lett 8 .bit (.app 0 5 [.var 0,.var 2])
(.lett 9 (.int .u64) (.app 0 6 [.var 0,.var 2])
(.lett 10 (.int .u64) (.app 0 7 [.var 0,.var 2])
(.lett 11 .bit (.app 0 8 [.var 0,.var 2])
(.lett 12 (.int .i64) (.app 0 9 [.var 0,.var 2])
(.ret [.var 3,.var 4,.var 5,.var 6,.var 7,.var 8,.var 9,.var 10,.var 11])))))))))))))
theorem law_bHash (f0 f:FuncId) (e:Nat->Int) (hp:(kBHash f).pre [e 0,e 1]):tBHash.says [kHSigL QB f0] ⟨fun ys=>ys=(kBHash f).sem [e 0,e 1],[]⟩ e:=by
 obtain ⟨h0,h1⟩:e 0=1/\dec (e 1)=[109]:=hp
 show tBHash.says _ ⟨fun ys=>ys=hM,[]⟩ e
 intro a2 _
 have d2:dec (e 2)=[e 1]:=by rw [show e 2=enc (dec 0++[e 1]) from a2,dec_enc,dec_zero];rfl
 have j2:joinP (dec (e 2))=tM:=by rw [d2];simp only [joinP,h1,List.append_nil];rfl
 have t2:totP (dec (e 2))=5:=by rw [d2];simp only [totP,h1];rfl
 refine ⟨⟨.inl h0,?_,by show totP (dec (e 2))<=65536;omega,⟨rfl,j2⟩⟩,fun a3 _ a4 _ a5 _ a6 _ a7 _ a8 _ a9 _ a10 _ a11 _ a12 _=>?_⟩
 ·show ∀ z∈dec (e 2),((dec z).length:Int)<4611686018427387904
  rw [d2]
  intro z hz
  rw [List.mem_singleton] at hz
  rw [hz,h1];decide
 ·have hs:(kHSigL QB f0).sem [e 0,e 2]=hM++[0]:=by
   show [e 0,0,0,0,0,0]++(hashL (e 0) 3 (joinP (dec (e 2)))).l++[0]=_
   rw [j2,h0,l1_M_eq];rfl
  have g:∀ j,((kHSigL QB f0).sem [e 0,e 2]).getD j 0=(hM++[0]).getD j 0:=fun j=>by rw [hs]
  show [e 3,e 4,e 5,e 6,e 7,e 8,e 9,e 10,e 11]=hM
  rw [show e 3=_ from a3.trans (g 0),show e 4=_ from a4.trans (g 1),show e 5=_ from a5.trans (g 2),show e 6=_ from a6.trans (g 3),show e 7=_ from a7.trans (g 4),show e 8=_ from a8.trans (g 5),show e 9=_ from a9.trans (g 6),show e 10=_ from a10.trans (g 7),show e 11=_ from a11.trans (g 8)];rfl
noncomputable def orBHash (g:FuncId):Or1:=⟨kBHash g,fun | [.wi 1,.wl [109]]=>some (hM.map .wi) | _=>none,fun aq os h=>by
 split at h
 ·cases h
  refine ⟨⟨rfl,by show dec (enc [109])=_;rw [dec_enc]⟩,?_⟩
  rw [List.map_map];exact (List.map_id _).symm
 ·cases h⟩
end Go.Sx
