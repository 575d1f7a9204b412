/- Part Nk of the proof. -/
import Derived.Test.YtjkkfifojkfnjaaGreatDoorNj
import Derived.Test.YtjkkfifojkfnjaaGreatDoorNjx
import Derived.Test.YtjkkfifojkfnjaaGreatDoorNh
import Derived.Test.YtjkkfifojkfnjaaGreatDoorNi
set_option linter.unusedVariables false
set_option linter.unusedSimpArgs false
namespace Go.Sx
open Go Go.RowKit
set_option maxRecDepth 100000
theorem mont_wide {n a:Int} (h:n%2=1):montv n a (wideOf n)=a*N384%n:=by
 obtain ⟨z,hz⟩:=RR1 h
 show a*wideOf n*half2 n^384%n=_
 refine md (a*z) ?_
 have:a*(wideOf n*half2 n^384)=a*(N384+n*z):=by rw [hz]
 grind
def kMWide (f:FuncId):K:={fn:=f,ext:=false,ins:=[iM,iN,iN],outs:=[oN],pre:=fun | [n,low,w,_,_]=>mGood n low w | _=>False,sem:=fun | [n,_,_,a,b]=>[(a+b*N384)%n] | _=>[] }
def tMWide:Tree:=(.lett 5 .bit (.cmp .eql (.var 1) (.lit 0))
(.split 5
(.ret [.lit 0])
(.req 1 [.var 0,.var 1,.var 2,.var 4,.var 2]
(.lett 390 .num (.app 1 0 [.var 0,.var 1,.var 2,.var 4,.var 2])
(.req 0 [.var 0,.var 1,.var 2,.var 3,.var 390]
(.lett 438 .num (.app 0 0 [.var 0,.var 1,.var 2,.var 3,.var 390])
(.ret [.var 438])))))))
theorem law_mWide (f1 f2 f:FuncId) (e:Nat->Int) (hp:(kMWide f).pre [e 0,e 1,e 2,e 3,e 4]):tMWide.says [kMAdd f1,kMont f2] ⟨fun ys=>ys=(kMWide f).sem [e 0,e 1,e 2,e 3,e 4],[]⟩ e:=by
 have hp:mGood (e 0) (e 1) (e 2):=hp
 have hm:=hp.1
 have hw:=hp.2
 have hn3:=hm.2.1
 have hwl:=wide_lt (n:=e 0) (by omega)
 show tMWide.says _ ⟨fun ys=>ys=[(e 3+e 4*N384)%e 0],[]⟩ e
 intro a5 _
 have b5:=c_eq a5
 simp only [ev_var,ev_lit] at b5
 refine ⟨fun h=>?_,fun h=>?_⟩
 ·exact absurd (b_yes b5 h) hm.low_ne
 refine ⟨⟨hm,.inr (by show e 2<e 0;rw [hw];exact hwl.2)⟩,fun a390 _=>⟨hp,fun a438 _=>?_⟩⟩
 have v390:e 390=montv (e 0) (e 4) (e 2):=a390
 have v438:e 438=(e 3+e 390)%e 0:=a438
 show [e 438]=_
 rw [v438,v390,hw,mont_wide hm.odd,Int.add_emod_emod]
def allV (tag:Int) (t:List Int):List Int:=Sha.sha (tag::0::t)++Sha.sha (tag::1::t)
def wideV (n tag:Int) (t:List Int):Int:=(readV ((allV tag t).drop 16)+readV ((allV tag t).take 16)*N384)%n
noncomputable def kSumQ (Q:Int->List Int->Prop) (f:FuncId):K:={Sha.kSum f with pre:=fun | [x]=>∃ tag t,Q tag t/\(x=enc (tag::0::t)∨x=enc (tag::1::t)) | _=>False }
noncomputable def kWide (Q:Int->List Int->Prop) (f:FuncId):K:={fn:=f,ext:=false,ins:=[iN,.one (.int .u8),.lst (.int .u8)],outs:=[oN],pre:=fun | [n,g,t]=>(n%2=1/\3<=n/\n<2^382)/\(dec t).length<=65536/\Q g (dec t) | _=>False,sem:=fun | [n,tag,t]=>[wideV n tag (dec t)] | _=>[] }
theorem list32 {l:List Int} (h:l.length=32):(List.range 32).map (fun j=>l.getD j 0)=l:=by
 apply List.ext_getElem?
 intro i
 rw [List.getElem?_map]
 rcases Nat.lt_or_ge i 32 with hi | hi
 ·rw [List.getElem?_range hi,Option.map_some,List.getD_eq_getElem?_getD,List.getElem?_eq_getElem (by omega)];rfl
 ·rw [List.getElem?_eq_none (by simpa using hi),List.getElem?_eq_none (by omega)];rfl
theorem app32 {v x:Int} (h:(dec x).length=32) (hv:v=enc (dec 0++(List.range 32).map (fun j=>(dec x).getD j 0))):dec v=dec x:=by rw [hv,dec_enc,dec_zero,List.nil_append,list32 h]
theorem new_mgood {n:Int} (h1:n%2=1) (h2:3<=n) (h3:n<2^382):mGood n (lowOf n) (wideOf n):=new_good h1 h2 h3
def tWide:Tree:=(.lett 3 (.lst (.int .u8)) (.lapp (.lit 0) [.var 1,.lit 0])
(.lett 4 (.int .i64) (.llen (.var 3))
(.lett 5 .bit (.cmp .lss (.var 4) (.lit 2147483648))
(.lett 6 (.int .i64) (.llen (.var 2))
(.lett 7 .bit (.cmp .lss (.var 6) (.lit 2147483648))
(.nz (.var 5)
(.nz (.var 7)
(.lett 8 (.lst (.int .u8)) (.lcat (.var 3) (.var 2))
(.req 0 [.var 8]
(.lett 9 (.arr .u8 32) (.app 0 0 [.var 8])
(.lett 10 (.lst (.int .u8)) (.lapp (.lit 0) [(.elt .u8 9 0),(.elt .u8 9 1),(.elt .u8 9 2),(.elt .u8 9 3),(.elt .u8 9 4),(.elt .u8 9 5),(.elt .u8 9 6),(.elt .u8 9 7),(.elt .u8 9 8),(.elt .u8 9 9),(.elt .u8 9 10),(.elt .u8 9 11),(.elt .u8 9 12),(.elt .u8 9 13),(.elt .u8 9 14),(.elt .u8 9 15),(.elt .u8 9 16),(.elt .u8 9 17),(.elt .u8 9 18),(.elt .u8 9 19),(.elt .u8 9 20),(.elt .u8 9 21),(.elt .u8 9 22),(.elt .u8 9 23),(.elt .u8 9 24),(.elt .u8 9 25),(.elt .u8 9 26),(.elt .u8 9 27),(.elt .u8 9 28),(.elt .u8 9 29),(.elt .u8 9 30),(.elt .u8 9 31)])
(.lett 11 (.int .i64) (.llen (.lit 0))
(.lett 12 .bit (.cmp .lss (.var 11) (.lit 2147483648))
(.lett 13 (.int .i64) (.llen (.var 10))
(.lett 14 .bit (.cmp .lss (.var 13) (.lit 2147483648))
(.nz (.var 12)
(.nz (.var 14)
(.lett 15 (.lst (.int .u8)) (.lcat (.lit 0) (.var 10))
(.lett 16 (.lst (.int .u8)) (.lapp (.lit 0) [.var 1,.lit 1])
(.lett 17 (.int .i64) (.llen (.var 16))
(.lett 18 .bit (.cmp .lss (.var 17) (.lit 2147483648))
(.lett 19 (.int .i64) (.llen (.var 2))
(.lett 20 .bit (.cmp .lss (.var 19) (.lit 2147483648))
(.nz (.var 18)
(.nz (.var 20)
(.lett 21 (.lst (.int .u8)) (.lcat (.var 16) (.var 2))
(.req 0 [.var 21]
(.lett 22 (.arr .u8 32) (.app 0 0 [.var 21])
(.lett 23 (.lst (.int .u8)) (.lapp (.lit 0) [(.elt .u8 22 0),(.elt .u8 22 1),(.elt .u8 22 2),(.elt .u8 22 3),(.elt .u8 22 4),(.elt .u8 22 5),(.elt .u8 22 6),(.elt .u8 22 7),(.elt .u8 22 8),(.elt .u8 22 9),(.elt .u8 22 10),(.elt .u8 22 11),(.elt .u8 22 12),(.elt .u8 22 13),(.elt .u8 22 14),(.elt .u8 22 15),(.elt .u8 22 16),(.elt .u8 22 17),(.elt .u8 22 18),(.elt .u8 22 19),(.elt .u8 22 20),(.elt .u8 22 21),(.elt .u8 22 22),(.elt .u8 22 23),(.elt .u8 22 24),(.elt .u8 22 25),(.elt .u8 22 26),(.elt .u8 22 27),(.elt .u8 22 28),(.elt .u8 22 29),(.elt .u8 22 30),(.elt .u8 22 31)])
(.lett 24 (.int .i64) (.llen (.var 15))
(.lett 25 .bit (.cmp .lss (.var 24) (.lit 2147483648))
(.lett 26 (.int .i64) (.llen (.var 23))
(.lett 27 .bit (.cmp .lss (.var 26) (.lit 2147483648))
(.nz (.var 25)
(.nz (.var 27)
(.lett 28 (.lst (.int .u8)) (.lcat (.var 15) (.var 23))
(.lett 29 (.int .i64) (.llen (.var 28))
(.lett 30 .bit (.cmp .leq (.lit 0) (.lit 0))
(.lett 31 .bit (.cmp .leq (.lit 0) (.lit 16))
(.lett 32 .bit (.cmp .leq (.lit 16) (.var 29))
(.nz (.var 30)
(.nz (.var 31)
(.nz (.var 32)
(.lett 33 (.lst (.int .u8)) (.lsub (.var 28) (.lit 0) (.lit 16))
(.req 1 [.var 33]
(.lett 34 .num (.app 1 0 [.var 33])
(.lett 35 (.int .i64) (.app 1 1 [.var 33])
(.lett 36 (.int .i64) (.llen (.var 28))
(.lett 37 .bit (.cmp .leq (.lit 0) (.lit 16))
(.lett 38 .bit (.cmp .leq (.lit 16) (.var 36))
(.lett 39 .bit (.cmp .leq (.var 36) (.var 36))
(.nz (.var 37)
(.nz (.var 38)
(.nz (.var 39)
(.lett 40 (.lst (.int .u8)) (.lsub (.var 28) (.lit 16) (.var 36))
(.req 1 [.var 40]
(.lett 41 .num (.app 1 0 [.var 40])
(.lett 42 (.int .i64) (.app 1 1 [.var 40])
(.req 2 [.var 0]
(.lett 43 .num (.app 2 0 [.var 0])
(.lett 44 (.int .u64) (.app 2 1 [.var 0])
(.lett 45 .num (.app 2 2 [.var 0])
(.req 3 [.var 43,.var 44,.var 45,.var 41,.var 34]
(.lett 46 .num (.app 3 0 [.var 43,.var 44,.var 45,.var 41,.var 34])
(.ret [.var 46])))))))))))))))))))))))))))))))))))))))))))))))))))))))))))))))))
theorem law_wide (Q:Int->List Int->Prop) (te:TypeId) (f0 f1 f2 f3 f:FuncId) (e:Nat->Int) (hp:(kWide Q f).pre [e 0,e 1,e 2]):tWide.says [kSumQ Q f0,kWRead f1,kNew f2 te,kMWide f3] ⟨fun ys=>ys=(kWide Q f).sem [e 0,e 1,e 2],[]⟩ e:=by
 obtain ⟨hn,ht,hq⟩:(e 0%2=1/\3<=e 0/\e 0<2^382)/\(dec (e 2)).length<=65536/\Q (e 1) (dec (e 2)):=hp
 show tWide.says _ ⟨fun ys=>ys=[wideV (e 0) (e 1) (dec (e 2))],[]⟩ e
 intro a3 _ a4 _ a5 _ a6 _ a7 _
 have d3:dec (e 3)=[e 1,0]:=by rw [show e 3=enc (dec 0++[e 1,0]) from a3,dec_enc,dec_zero];rfl
 have v4:e 4=2:=by rw [show e 4=((dec (e 3)).length:Int) from a4,d3];rfl
 have v6:e 6=((dec (e 2)).length:Int):=a6
 refine ⟨lt_nz a5 (by show e 4<2147483648;omega),lt_nz a7 (by show e 6<2147483648;omega),fun a8 _=>?_⟩
 have d8:dec (e 8)=e 1::0::dec (e 2):=by rw [show e 8=enc (dec (e 3)++dec (e 2)) from a8,dec_enc,d3];rfl
 refine ⟨⟨e 1,dec (e 2),hq,.inl (by show e 8=_;rw [show e 8=enc (dec (e 3)++dec (e 2)) from a8,d3];rfl)⟩,fun a9 k9 a10 _ a11 _ a12 _ a13 _ a14 _=>?_⟩
 have l9:(dec (e 9)).length=32:=k9.2
 have d9:dec (e 9)=Sha.sha (e 1::0::dec (e 2)):=by rw [show e 9=enc (Sha.sha (dec (e 8))) from a9,dec_enc,d8]
 have d10:dec (e 10)=dec (e 9):=app32 l9 a10
 have v11:e 11=0:=by rw [show e 11=((dec 0).length:Int) from a11,dec_zero];rfl
 have v13:e 13=32:=by rw [show e 13=((dec (e 10)).length:Int) from a13,d10,l9];rfl
 refine ⟨lt_nz a12 (by show e 11<2147483648;omega),lt_nz a14 (by show e 13<2147483648;omega),fun a15 _ a16 _ a17 _ a18 _ a19 _ a20 _=>?_⟩
 have d15:dec (e 15)=dec (e 9):=by rw [show e 15=enc (dec 0++dec (e 10)) from a15,dec_enc,dec_zero,d10];rfl
 have d16:dec (e 16)=[e 1,1]:=by rw [show e 16=enc (dec 0++[e 1,1]) from a16,dec_enc,dec_zero];rfl
 have v17:e 17=2:=by rw [show e 17=((dec (e 16)).length:Int) from a17,d16];rfl
 have v19:e 19=((dec (e 2)).length:Int):=a19
 refine ⟨lt_nz a18 (by show e 17<2147483648;omega),lt_nz a20 (by show e 19<2147483648;omega),fun a21 _=>?_⟩
 have d21:dec (e 21)=e 1::1::dec (e 2):=by rw [show e 21=enc (dec (e 16)++dec (e 2)) from a21,dec_enc,d16];rfl
 refine ⟨⟨e 1,dec (e 2),hq,.inr (by show e 21=_;rw [show e 21=enc (dec (e 16)++dec (e 2)) from a21,d16];rfl)⟩,fun a22 k22 a23 _ a24 _ a25 _ a26 _ a27 _=>?_⟩
 have l22:(dec (e 22)).length=32:=k22.2
 have d22:dec (e 22)=Sha.sha (e 1::1::dec (e 2)):=by rw [show e 22=enc (Sha.sha (dec (e 21))) from a22,dec_enc,d21]
 have d23:dec (e 23)=dec (e 22):=app32 l22 a23
 have v24:e 24=32:=by rw [show e 24=((dec (e 15)).length:Int) from a24,d15,l9];rfl
 have v26:e 26=32:=by rw [show e 26=((dec (e 23)).length:Int) from a26,d23,l22];rfl
 refine ⟨lt_nz a25 (by show e 24<2147483648;omega),lt_nz a27 (by show e 26<2147483648;omega),fun a28 _ a29 _ a30 _ a31 _ a32 _=>?_⟩
 have d28:dec (e 28)=allV (e 1) (dec (e 2)):=by rw [show e 28=enc (dec (e 15)++dec (e 23)) from a28,dec_enc,d15,d23,d9,d22];rfl
 have l28:(dec (e 28)).length=64:=by rw [show e 28=enc (dec (e 15)++dec (e 23)) from a28,dec_enc,d15,d23,List.length_append,l9,l22]
 have v29:e 29=64:=by rw [show e 29=((dec (e 28)).length:Int) from a29,l28];rfl
 refine ⟨le_nz a30 (show (0:Int)<=0 by decide),le_nz a31 (show (0:Int)<=16 by decide),le_nz a32 (by show 16<=e 29;omega),fun a33 _=>⟨trivial,fun a34 _ a35 _ a36 _ a37 _ a38 _ a39 _=>?_⟩⟩
 have d33:dec (e 33)=(dec (e 28)).take 16:=by rw [show e 33=enc (((dec (e 28)).take 16).drop 0) from a33,dec_enc];rfl
 have v34:e 34=readV ((dec (e 28)).take 16):=by
  have h:e 34=((if (dec (e 33)).length<=48 then [readV (dec (e 33)),0] else [0,3]):List Int).getD 0 0:=a34
  rw [h,d33,if_pos (by rw [List.length_take,l28];decide)];rfl
 have v36:e 36=64:=by rw [show e 36=((dec (e 28)).length:Int) from a36,l28];rfl
 refine ⟨le_nz a37 (show (0:Int)<=16 by decide),le_nz a38 (by show 16<=e 36;omega),le_nz a39 (Int.le_refl _),fun a40 _=>⟨trivial,fun a41 _ a42 _=>?_⟩⟩
 have d40:dec (e 40)=(dec (e 28)).drop 16:=by
  rw [show e 40=enc (((dec (e 28)).take (e 36).toNat).drop 16) from a40,dec_enc,v36,List.take_of_length_le (by rw [l28];decide)]
 have v41:e 41=readV ((dec (e 28)).drop 16):=by
  have h:e 41=((if (dec (e 40)).length<=48 then [readV (dec (e 40)),0] else [0,3]):List Int).getD 0 0:=a41
  rw [h,d40,if_pos (by rw [List.length_drop,l28];decide)];rfl
 refine ⟨hn,fun a43 _ a44 _ a45 _=>?_⟩
 have v43:e 43=e 0:=a43
 have v44:e 44=lowOf (e 0):=a44
 have v45:e 45=wideOf (e 0):=a45
 refine ⟨by show mGood (e 43) (e 44) (e 45);rw [v43,v44,v45];exact new_mgood hn.1 hn.2.1 hn.2.2,fun a46 _=>?_⟩
 have v46:e 46=(e 41+e 34*N384)%e 43:=a46
 show [e 46]=_
 rw [v46,v43,v41,v34,d28];rfl
end Go.Sx

namespace Go.Sx
open Go Go.RowKit
def QW (g:Int) (t:List Int):Prop:=t.length<=65536
theorem dsum_QW (f1 f:FuncId) (e:Nat->Int) (hp:(kSumQ QW f).pre [e 0]):Sha.tDSum.says [Sha.kRot f1] ⟨fun ys=>ys=(kSumQ QW f).sem [e 0],[]⟩ e :=
 Sha.law_dsum f1 f e (by
  obtain ⟨g,t,h,hx⟩:=hp
  have h:t.length<=65536:=h
  show (dec (e 0)).length<1073741824
  rcases hx with hx | hx <;> rw [hx,dec_enc,List.length_cons,List.length_cons] <;> omega)
end Go.Sx


namespace Go.Sx
open Go Go.RowKit
abbrev Tb:Type:=List (List W×List W)
open Classical in
noncomputable def lookT:Tb->List Int->List Int
 | [],_=>[]
 | p::r,xs=>if xs=p.1.map W.toI then p.2.map W.toI else lookT r xs
noncomputable def kTb (f:FuncId) (ins:List Sh) (outs:List Oh) (tab:Tb):K:={fn:=f,ext:=false,ins:=ins,outs:=outs,pre:=fun xs=>∃ p∈tab,xs=p.1.map W.toI,sem:=lookT tab }
structure Or1 where
 X:K
 f:List W->Option (List W)
 ok:∀ aq os,f aq=some os->X.pre (aq.map W.toI)/\X.sem (aq.map W.toI)=os.map W.toI
def orL (l:List Or1):Oracle:=fun g ws=>match l[g]? with | some o=>o.f ws | none=>none
theorem orL_ok (l:List Or1):OrOk (l.map (·.X)) (orL l):=fun g aq os h=>by
 unfold orL at h
 cases hl:l[g]? with
 | none=>rw [hl] at h;cases h
 | some o =>
  rw [hl] at h
  exact ⟨o.X,by rw [List.getElem?_map,hl];rfl,o.ok aq os h⟩
def findT:Tb->List W->Option (List W)
 | [],_=>none
 | p::r,ws=>if wsEq p.1 ws then some p.2 else findT r ws
def W.ne (a b:W):Bool:=match a,b with
 | .wi x,.wi y=>x != y
 | .wl x,.wl y=>!intsEq x y
 | _,_=>false
def wsNe:List W->List W->Bool
 | a::aq,b::bs=>a.ne b || wsNe aq bs
 | [],_::_=>true
 | _::_,[]=>true
 | [],[]=>false
def tbOk:Tb->Bool
 | []=>true
 | p::r=>r.all (fun q=>wsNe p.1 q.1)&&tbOk r
theorem intsEq_refl:∀ l:List Int,intsEq l l=true
 | []=>rfl
 | a::l=>by simp [intsEq,intsEq_refl l]
theorem W.ne_ok {a b:W} (h:a.ne b=true):a.toI≠b.toI:=by
 cases a <;> cases b <;> simp only [W.ne,bne_iff_ne,Bool.not_eq_true',Bool.false_eq_true] at h
 ·exact h
 ·intro hc
  rename_i x y
  have:x=y:=by
   have h1:=congrArg dec hc
   simpa [W.toI,dec_enc] using h1
  rw [this,intsEq_refl] at h;cases h
theorem wsNe_ok:∀ {a b:List W},wsNe a b=true->a.map W.toI≠b.map W.toI
 | a::aq,b::bs,h=>by
  simp only [wsNe,Bool.or_eq_true] at h
  intro hc
  simp only [List.map_cons,List.cons.injEq] at hc
  rcases h with h | h
  ·exact W.ne_ok h hc.1
  ·exact wsNe_ok h hc.2
 | [],_::_,_=>by simp
 | _::_,[],_=>by simp
theorem lookT_of:∀ {tab:Tb},tbOk tab=true->∀ {p:List W×List W},p∈tab->lookT tab (p.1.map W.toI)=p.2.map W.toI
 | q::r,h,p,hp=>by
  simp only [tbOk,Bool.and_eq_true,List.all_eq_true] at h
  unfold lookT
  rcases List.mem_cons.1 hp with rfl | hp
  ·rw [if_pos rfl]
  ·rw [if_neg (fun hc=>wsNe_ok (h.1 p hp) hc.symm)]
   exact lookT_of h.2 hp
theorem findT_mem:∀ {tab:Tb} {ws os:List W},findT tab ws=some os->(ws,os)∈tab
 | p::r,ws,os,h=>by
  unfold findT at h
  split at h
  ·rename_i he
   cases h
   have:=wsEq_ok he
   subst this
   exact .head _
  ·exact .tail _ (findT_mem h)
noncomputable def orTb (f:FuncId) (ins:List Sh) (outs:List Oh) (tab:Tb) (h:tbOk tab=true):Or1 where
 X:=kTb f ins outs tab
 f:=findT tab
 ok:=fun aq os hf=>by
  have:=findT_mem hf
  exact ⟨⟨_,this,rfl⟩,lookT_of h this⟩
def envW:Nat->List W->List (Nat×W)
 | _,[]=>[]
 | n,w::ws=>(n,w)::envW (n+1) ws
def isDone (os:List W):Option Rs->Bool | some (.done ws)=>wsEq ws os | _=>false
def runs (fd:Oracle) (N:Nat) (t:Tree) (tab:Tb):Bool:=tab.all fun p=>isDone p.2 (t.cr fd N 0 (envW 0 p.1))
theorem envW_ag {e:Nat->Int}:∀ (ws:List W) (n:Nat),(∀ (j:Nat) w,ws[j]?=some w->e (n+j)=w.toI)->Ag (envW n ws) e
 | [],_,_=>fun p hp=>by cases hp
 | w::ws,n,h=>fun p hp=>by
  rcases List.mem_cons.1 hp with rfl | hp
  ·exact h 0 w rfl
  ·exact envW_ag ws (n+1) (fun j u hu=>by rw [show n+1+j=n+(j+1) by omega];exact h (j+1) u hu) p hp
theorem tb_says {l:List Or1} {N:Nat} {t:Tree} {tab:Tb} (hr:runs (orL l) N t tab=true) (ho:tbOk tab=true) (f:FuncId) (ins:List Sh) (outs:List Oh) {e:Nat->Int} {xs:List Int} (hx:∀ (j:Nat) x,xs[j]?=some x->e j=x) (hp:(kTb f ins outs tab).pre xs):t.says (l.map (·.X)) ⟨fun ys=>ys=(kTb f ins outs tab).sem xs,[]⟩ e:=by
 obtain ⟨p,mp,rfl⟩:=hp
 have h1:=List.all_eq_true.1 hr p mp
 obtain ⟨r,hrr⟩:∃ r,t.cr (orL l) N 0 (envW 0 p.1)=r:=⟨_,rfl⟩
 rw [hrr] at h1
 match r,h1 with
 | some (.done ws),h1 =>
  have hw:ws=p.2:=wsEq_ok h1
  refine cr_says (orL_ok l) t ⟨_,[]⟩ e (envW 0 p.1) (.done ws) hrr (envW_ag p.1 0 fun j w hj=>?_) ?_
  ·rw [Nat.zero_add];exact hx j _ (by rw [List.getElem?_map,hj];rfl)
  ·show ws.map W.toI=lookT tab (p.1.map W.toI)
   rw [hw,lookT_of ho mp]
theorem seq_get {e:Nat->Int}:∀ (n k j:Nat) (x:Int),(seqE e k n)[j]?=some x->e (k+j)=x
 | 0,_,_,_,h=>by cases h
 | n+1,k,0,x,h=>by cases h;rfl
 | n+1,k,j+1,x,h=>by rw [show k+(j+1)=k+1+j by omega];exact seq_get n (k+1) j x h
theorem tb_law {l:List Or1} {N:Nat} {t:Tree} {tab:Tb} (n:Nat) (hr:runs (orL l) N t tab=true) (ho:tbOk tab=true) (f:FuncId) (ins:List Sh) (outs:List Oh) {e:Nat->Int} (hp:(kTb f ins outs tab).pre (seqE e 0 n)):t.says (l.map (·.X)) ⟨fun ys=>ys=(kTb f ins outs tab).sem (seqE e 0 n),[]⟩ e :=
 tb_says hr ho f ins outs (fun j x hx=>by have:=seq_get n 0 j x hx;rwa [Nat.zero_add] at this) hp
theorem tab_ok {P:Program} {LA:List Ann} {gls:Gls} (hm:P.follows .mixedOrders=true) {f:FuncId} {ins:List Sh} {outs:List Oh} {tab:Tb} {l:List Or1} (hT:AllOk P (l.map (·.X)) gls) {fn:Func} (fuel:Nat) (hf:P.funcs[f]?=some fn) (hn:(fn.name == "runtime.NumGoroutine")=false) (hok:ins.all okSh=true)
  (hw:wfT (icount ins) (tree P (l.map (·.X)) LA fuel fn ins outs gls)=true) (N:Nat) (hr:runs (orL l) N (tree P (l.map (·.X)) LA fuel fn ins outs gls) tab=true) (ho:tbOk tab=true):(kTb f ins outs tab).ok P gls :=
 ctr_says (X:=kTb f ins outs tab) hm hT fuel hf hn rfl hok rfl hw fun e hk hp=>tb_law (icount ins) hr ho f ins outs hp
set_option maxRecDepth 100000
def orNever (g:FuncId) (ins:List Sh) (outs:List Oh):Or1:=⟨kNever g ins outs,fun _=>none,fun _ _ h=>by cases h⟩
def orOf (g:FuncId):Or1:=⟨kOf g,fun | [.wi a]=>some [.wi a] | _=>none,fun aq os h=>by
 split at h
 ·cases h;exact ⟨trivial,rfl⟩
 ·cases h⟩
def orWCmp (g:FuncId):Or1:=⟨kWCmp g,fun | [.wi a,.wi b]=>some [.wi (if a<b then -1 else if a=b then 0 else 1)] | _=>none,fun aq os h=>by
 split at h
 ·cases h;exact ⟨trivial,rfl⟩
 ·cases h⟩
def orOrder (g:FuncId):Or1:=⟨kOrder g,fun | [.wi s]=>if 0<=s/\s<=2 then some [.wi (rOf s)] else none | _=>none,fun aq os h=>by
 split at h
 ·split at h
  ·rename_i hs;cases h;exact ⟨hs,rfl⟩
  ·cases h
 ·cases h⟩
def orSOrder (g:FuncId):Or1:=⟨kSOrder g,fun | [.wi s]=>if 0<=s/\s<=2 then some [.wi (rOf s),.wi 0] else none | _=>none,fun aq os h=>by
 split at h
 ·split at h
  ·rename_i s hs;cases h;exact ⟨trivial,by show (if isS s then [rOf s,0] else [0,2])=_;rw [if_pos (show isS s from hs)];rfl⟩
  ·cases h
 ·cases h⟩
def orLOf (g:FuncId):Or1:=⟨kLOf g,fun | [.wi s]=>some ((cvL s).map .wi) | _=>none,fun aq os h=>by
 split at h
 ·cases h
  rename_i s
  refine ⟨trivial,?_⟩
  show cvL s=_
  rw [List.map_map]
  exact (List.map_id _).symm
 ·cases h⟩
def orLIn (g:FuncId):Or1:=⟨kLIn g,fun | [.wi p,.wi r,.wi _,.wi _,.wi _,.wi _,.wi x,.wi y,.wi z]=>if 3<=p/\p<4611686018427387904 then some [.wi (bi (inP p r x y z))] else none | _=>none,fun aq os h=>by
 split at h
 ·split at h
  ·rename_i hp;cases h;exact ⟨hp,rfl⟩
  ·cases h
 ·cases h⟩
def orLMul (g:FuncId):Or1:=⟨kLMul g,fun | [.wi p,.wi _,.wi _,.wi _,.wi _,.wi _,.wi a,.wi b]=>if 3<=p/\p<4611686018427387904 then some [.wi (a*b%p)] else none | _=>none,fun aq os h=>by
 split at h
 ·split at h
  ·rename_i hp;cases h;exact ⟨hp,rfl⟩
  ·cases h
 ·cases h⟩
def orLAdd (g:FuncId):Or1:=⟨kLAdd g,fun | [.wi p,.wi _,.wi _,.wi _,.wi _,.wi _,.wi a,.wi b]=>if (3<=p/\p<4611686018427387904)/\a<p/\b<p then some [.wi ((a+b)%p)] else none | _=>none,fun aq os h=>by
 split at h
 ·split at h
  ·rename_i hp;cases h;exact ⟨hp,rfl⟩
  ·cases h
 ·cases h⟩
def orLSum (g:FuncId):Or1:=⟨kLSum g,fun | [.wi p,.wi _,.wi _,.wi _,.wi _,.wi _,.wi x,.wi y,.wi z,.wi x',.wi y',.wi z']=>if (3<=p/\p<4611686018427387904)/\x<p/\y<p/\x'<p/\y'<p then some ((sumP p ⟨x,y,z⟩ ⟨x',y',z'⟩).l.map .wi) else none | _=>none,fun aq os h=>by
 split at h
 ·split at h
  ·rename_i hp
   cases h
   refine ⟨hp,?_⟩
   rw [List.map_map]
   exact (List.map_id _).symm
  ·cases h
 ·cases h⟩
noncomputable def orLMul2 (g:FuncId):Or1:=⟨kLMul2 g,fun | [.wi s,.wi x,.wi y,.wi z,.wi n]=>if (s=1∨s=2)/\onP (pL s) x y z then some (((mulP (pL s) ⟨x,y,z⟩ 64 n.toNat).l++[0]).map .wi) else none | _=>none,fun aq os h=>by
 split at h
 ·split at h
  ·rename_i hp
   cases h
   refine ⟨hp,?_⟩
   rw [List.map_map]
   exact (List.map_id _).symm
  ·cases h
 ·cases h⟩
end Go.Sx

