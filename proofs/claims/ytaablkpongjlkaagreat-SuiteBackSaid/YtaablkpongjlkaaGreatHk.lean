/- Part Hk of the proof. -/
import Derived.Test.YtaablkpongjlkaaGreatHj
import Derived.Test.YtaablkpongjlkaaGreatHi
set_option linter.unusedVariables false
set_option linter.unusedSimpArgs false
namespace Go.Sx
open Go Go.RowKit
set_option maxRecDepth 100000
theorem halves {x:Int} {i:Nat} (hx:0<=x):(x/2^i).toNat=2*(x/2^(i+1)).toNat+(x/2^i%2).toNat:=by
 have hq:(0:Int)<2^i:=Int.pow_pos (by decide)
 rw [Int.pow_succ,<- Int.ediv_ediv_of_nonneg (by omega)]
 have:=Int.ediv_nonneg hx (show (0:Int)<=2^i by omega)
 omega
def EPowI (a n:Int):List Int->Prop
 | [i,o]=>-1<=i/\i<=383/\o=toE (a^(n/2^(i+1).toNat).toNat)
 | _=>False
theorem div_384 {x:Int} (h:0<=x/\x<N384):x/2^384=0:=by
 refine Int.ediv_eq_zero_of_lt h.1 ?_
 rw [show (2:Int)^384=N384 by decide +kernel];exact h.2
def tEPow:Tree:=(.req 1 []
(.lett 2 .num (.app 1 0 [])
(.loop [.lit 383,.var 2] [(.int .i64),.num] 3
(.lett 5 .bit (.cmp .geq (.var 3) (.lit 0))
(.split 5
(.req 0 [.var 4,.var 4]
(.lett 6 .num (.app 0 0 [.var 4,.var 4])
(.lett 7 (.int .i64) (.bin .quo .i64 (.var 3) (.lit 64))
(.lett 8 .bit (.cmp .leq (.lit 0) (.var 7))
(.lett 9 .bit (.cmp .lss (.var 7) (.lit 6))
(.nz (.var 8)
(.nz (.var 9)
(.lett 10 (.int .u64) (.sel (.var 7) [.limb 1 0,.limb 1 1,.limb 1 2,.limb 1 3,.limb 1 4,.limb 1 5])
(.lett 11 (.int .i64) (.bin .rem .i64 (.var 3) (.lit 64))
(.lett 12 .bit (.cmp .leq (.lit 0) (.var 11))
(.lett 13 (.int .u64) (.bin .shr .u64 (.var 10) (.var 11))
(.nz (.var 12)
(.lett 14 (.int .u64) (.bin .and .u64 (.var 13) (.lit 1))
(.lett 15 .bit (.cmp .eql (.var 14) (.lit 1))
(.split 15
 (.req 0 [.var 6,.var 0]
 (.lett 16 .num (.app 0 0 [.var 6,.var 0])
 (.lett 17 (.int .i64) (.bin .sub .i64 (.var 3) (.lit 1))
 (.back 0 [.var 17,.var 16]))))
 (.lett 16 (.int .i64) (.bin .sub .i64 (.var 3) (.lit 1))
 (.back 0 [.var 16,.var 6])))))))))))))))))
(.ret [.var 4]))))))
theorem law_ePow (f1 f2 f:FuncId) (e:Nat->Int) (hk:kkHas [.num,.num] [e 0,e 1]) (hp:(kEPow f).pre [e 0,e 1]):tEPow.says [kEMul f1,kEOne f2] ⟨fun ys=>ys=(kEPow f).sem [e 0,e 1],[]⟩ e:=by
 have u0:e 0<bP:=hp
 have v0:0<=e 0:=hk.1.1
 have h1:0<=e 1/\e 1<N384:=hk.2.1
 have q0:=E_of v0 u0
 obtain ⟨A,hA⟩:∃ A,A=ofE (e 0):=⟨_,rfl⟩
 rw [<- hA] at q0
 refine ⟨trivial,fun a2 _=>?_⟩
 have q2:e 2=toE 1:=a2
 refine ⟨EPowI A (e 1),fun | [i,_]=>(i+1).toNat | _=>0,?_,fun e' he hkk hI=>?_⟩
 ·refine ⟨(show (-1:Int)<=383 by decide),(show (383:Int)<=383 by decide),?_⟩
  show e 2=toE (A^(e 1/2^384).toNat)
  rw [div_384 h1,q2,Int.toNat_zero,Int.pow_zero]
 ·obtain ⟨i1,i2,i3⟩:EPowI A (e 1) [e' 3,e' 4]:=hI
  rw [<- he 0 (by decide)] at q0 u0
  rw [<- he 1 (by decide)] at h1 i3 ⊢
  have e0:e 0=e' 0:=(he 0 (by decide)).symm
  rw [e0]
  rw [e0] at hA
  clear he a2 q2 hk hkk e0
  intro a5 _
  have b5:=c_ge a5
  refine ⟨fun hs=>?_,fun hs=>?_⟩
  ·have c5:0<=e' 3:=by
    rcases b5 with ⟨_,h⟩ | ⟨h,_⟩
    ·exact h
    ·exact absurd h hs
   obtain ⟨n,hi⟩:=Int.eq_ofNat_of_zero_le c5
   rw [hi,show ((n:Int)+1).toNat=n+1 by omega] at i3
   refine ⟨⟨E_lt i3,E_lt i3⟩,fun a6 _=>?_⟩
   have q6:=Emul (show e' 6=toE (ofE (e' 4)*ofE (e' 4)) from a6) i3 i3
   intro a7 _
   have h7:e' 7=e' 3/64:=by
    have:e' 7=binE .quo .i64 (e' 3) 64:=a7
    rw [this];simp only [binE];rw [Int.tdiv_eq_ediv_of_nonneg c5];simp only [wr];omega
   intro a8 _ a9 _
   refine ⟨bit_nz a8 (by show 0<=e' 7;rw [h7];omega),lt_nz a9 (by show e' 7<6;rw [h7];omega),fun a10 _ a11 _ a12 _ a13 k13=>?_⟩
   have h11:e' 11=e' 3%64:=by
    have:e' 11=binE .rem .i64 (e' 3) 64:=a11
    rw [this];simp only [binE];rw [Int.tmod_eq_emod_of_nonneg c5]
   refine ⟨bit_nz a12 (by show 0<=e' 11;rw [h11];omega),fun a14 _ a15 _=>?_⟩
   have hb:=bit_fin (e:=e') (a:=e' 1) (i:=e' 3) (q:=e' 7) (s:=e' 10) (r:=e' 11) (v:=e' 13) (w:=e' 14) (z:=wr .i64 (e' 14)) ⟨c5,by omega⟩ h1 h7 a10 h11 a13 a14 rfl
   have h14:=and_1 a14 (has_u64 k13)
   have h14':e' 14=e' 1/2^(e' 3).toNat%2:=by
    rw [<- hb,h14];simp only [wr];omega
   rw [hi,Int.toNat_natCast] at h14'
   have hh:=halves (i:=n) h1.1
   have b15:=c_eq a15
   refine ⟨fun hs2=>?_,fun hs2=>?_⟩
   ·have c15:e' 14=1:=by
     rcases b15 with ⟨_,h⟩ | ⟨h,_⟩
     ·exact h
     ·exact absurd h hs2
    refine ⟨⟨E_lt q6,u0⟩,fun a16 _ a17 _=>?_⟩
    have q16:=Emul (show e' 16=toE (ofE (e' 6)*ofE (e' 0)) from a16) q6 q0
    have h17:e' 17=n-1:=by
     have:e' 17=binE .sub .i64 (e' 3) 1:=a17
     rw [this,hi];simp only [binE,wr];omega
    show EPowI A (e' 1) [e' 17,e' 16]/\(e' 17+1).toNat<(e' 3+1).toNat
    rw [h17,hi]
    refine ⟨⟨by omega,by omega,?_⟩,by omega⟩
    rw [show ((n:Int)-1+1).toNat=n by omega,q16,hh,<- h14',c15,<- Int.pow_add,<- Int.pow_succ]
    congr 2;omega
   ·have c15:e' 14=0:=by
     rcases b15 with ⟨h,_⟩ | ⟨_,h⟩
     ·exact absurd (h.symm.trans hs2) (by decide)
     ·have:e' 14≠1:=h
      omega
    intro a16 _
    have h16:e' 16=n-1:=by
     have:e' 16=binE .sub .i64 (e' 3) 1:=a16
     rw [this,hi];simp only [binE,wr];omega
    show EPowI A (e' 1) [e' 16,e' 6]/\(e' 16+1).toNat<(e' 3+1).toNat
    rw [h16,hi]
    refine ⟨⟨by omega,by omega,?_⟩,by omega⟩
    rw [show ((n:Int)-1+1).toNat=n by omega,q6,hh,<- h14',c15,<- Int.pow_add]
    congr 2;omega
  ·have c5:e' 3=-1:=by
    rcases b5 with ⟨h,_⟩ | ⟨_,h⟩
    ·exact absurd (h.symm.trans hs) (by decide)
    ·have:¬ e' 3≥0:=h
     omega
   rw [c5] at i3
   show [e' 4]=[toE (ofE (e' 0)^(e' 1).toNat)]
   rw [i3,<- hA]
   show [toE (A^(e' 1/1).toNat)]=_
   rw [Int.ediv_one]
def tEInv:Tree:=(.req 0 [.var 0,.lit 4002409555221667393417789825735904156556882819939007885332058136124031650490837864442687629129015664037894272559785]
(.lett 1 .num (.app 0 0 [.var 0,.lit 4002409555221667393417789825735904156556882819939007885332058136124031650490837864442687629129015664037894272559785])
(.ret [.var 1])))
theorem law_eInv (f1 f:FuncId) (e:Nat->Int) (hk:kkHas [.num] [e 0]) (hp:(kEInv f).pre [e 0]):tEInv.says [kEPow f1] ⟨fun ys=>ys=(kEInv f).sem [e 0],[]⟩ e:=by
 have u0:e 0<bP:=hp
 refine ⟨u0,fun a1 _=>?_⟩
 show [e 1]=[toE (ofE (e 0)^(bP-2).toNat)]
 rw [show e 1=toE (ofE (e 0)^(Int.toNat 4002409555221667393417789825735904156556882819939007885332058136124031650490837864442687629129015664037894272559785)) from a1]
 rfl
def tFirst:Tree:=(.req 1 []
(.lett 0 .num (.app 1 0 [])
(.req 2 [.lit 4]
(.lett 1 .num (.app 2 0 [.lit 4])
(.req 0 [.var 1]
(.lett 2 .num (.app 0 0 [.var 1])
(.ret [.var 0,.var 2])))))))
theorem law_first (o:Fo) (f1 f2 f3 f:FuncId) (e:Nat->Int):tFirst.says [kETo f1,kEOne f2,kOf f3] ⟨fun ys=>ys=(kFirst o f).sem [],[]⟩ e:=by
 refine ⟨trivial,fun a0 _=>⟨trivial,fun a1 _=>⟨trivial,fun a2 _=>?_⟩⟩⟩
 show [e 0,e 2]=[toE 1,toE 4]
 rw [show e 0=toE 1 from a0,show e 2=toE (e 1) from a2,show e 1=4 from a1]
def tRaise:Tree:=(.split 4
(.ret [.var 0,.var 0,.lit 0])
(.ret [.var 2,.var 3,.var 0]))
theorem law_raise (o:Fo) (f:FuncId) (e:Nat->Int):tRaise.says [] ⟨fun ys=>ys=(kRaise o f).sem [e 0,e 1,e 2,e 3,e 4],[]⟩ e:=by
 refine ⟨fun h=>?_,fun h=>?_⟩
 ·show [e 0,e 0,0]=if e 4=0 then [e 2,e 3,e 0] else [e 0,e 0,0]
  rw [if_neg h]
 ·show [e 2,e 3,e 0]=if e 4=0 then [e 2,e 3,e 0] else [e 0,e 0,0]
  rw [if_pos h]
def tTwice:Tree:=(.req 2 [.var 3,.var 3]
(.lett 5 .num (.app 2 0 [.var 3,.var 3])
(.req 2 [.var 2,.var 5]
(.lett 6 .num (.app 2 0 [.var 2,.var 5])
(.req 0 [.var 6,.var 6]
(.lett 7 .num (.app 0 0 [.var 6,.var 6])
(.req 0 [.var 7,.var 7]
(.lett 8 .num (.app 0 0 [.var 7,.var 7])
(.req 2 [.var 2,.var 2]
(.lett 9 .num (.app 2 0 [.var 2,.var 2])
(.req 0 [.var 9,.var 9]
(.lett 298 .num (.app 0 0 [.var 9,.var 9])
(.req 0 [.var 298,.var 9]
(.lett 394 .num (.app 0 0 [.var 298,.var 9])
(.req 2 [.var 394,.var 394]
(.lett 778 .num (.app 2 0 [.var 394,.var 394])
(.req 0 [.var 8,.var 8]
(.lett 1018 .num (.app 0 0 [.var 8,.var 8])
(.req 1 [.var 778,.var 1018]
(.lett 1066 .num (.app 1 0 [.var 778,.var 1018])
(.req 2 [.var 5,.var 5]
(.lett 1210 .num (.app 2 0 [.var 5,.var 5])
(.req 0 [.var 1210,.var 1210]
(.lett 1211 .num (.app 0 0 [.var 1210,.var 1210])
(.req 0 [.var 1211,.var 1211]
(.lett 1212 .num (.app 0 0 [.var 1211,.var 1211])
(.req 0 [.var 1212,.var 1212]
(.lett 1213 .num (.app 0 0 [.var 1212,.var 1212])
(.req 2 [.var 3,.var 4]
(.lett 1214 .num (.app 2 0 [.var 3,.var 4])
(.req 1 [.var 8,.var 1066]
(.lett 1695 .num (.app 1 0 [.var 8,.var 1066])
(.req 2 [.var 394,.var 1695]
(.lett 1743 .num (.app 2 0 [.var 394,.var 1695])
(.req 1 [.var 1743,.var 1213]
(.lett 1839 .num (.app 1 0 [.var 1743,.var 1213])
(.req 0 [.var 1214,.var 1214]
(.lett 2079 .num (.app 0 0 [.var 1214,.var 1214])
(.ret [.var 1066,.var 1839,.var 2079])))))))))))))))))))))))))))))))))))))))
theorem law_twice (o:Fo) (f1 f2 f3 f:FuncId) (e:Nat->Int) (hk:kkHas [.num,.num,.num,.num,.num] [e 0,e 1,e 2,e 3,e 4]) (hp:(kTwice o f).pre [e 0,e 1,e 2,e 3,e 4]):tTwice.says [kEAdd f1,kESub f2,kEMul f3] ⟨fun ys=>ys=(kTwice o f).sem [e 0,e 1,e 2,e 3,e 4],[]⟩ e:=by
 obtain ⟨u2,u3,u4⟩:e 2<bP/\e 3<bP/\e 4<bP:=hp
 obtain ⟨_,_,h2,h3,h4,_⟩:=hk
 have q2:=E_of h2.1 u2
 have q3:=E_of h3.1 u3
 have q4:=E_of h4.1 u4
 clear u2 u3 u4 h2 h3 h4
 show tTwice.says _ ⟨fun ys=>ys=(dblJ R1 (ofJ (e 2) (e 3) (e 4))).l,[]⟩ e
 refine ⟨⟨E_lt q3,E_lt q3⟩,?_⟩
 intro a5 k5
 have q5:=Emul (show e 5=toE (ofE (e 3)*ofE (e 3)) from a5) q3 q3
 clear a5 k5
 refine ⟨⟨E_lt q2,E_lt q5⟩,?_⟩
 intro a6 k6
 have q6:=Emul (show e 6=toE (ofE (e 2)*ofE (e 5)) from a6) q2 q5
 clear a6 k6
 refine ⟨⟨E_lt q6,E_lt q6⟩,?_⟩
 intro a7 k7
 have q7:=Eadd (show e 7=toE (ofE (e 6)+ofE (e 6)) from a7) q6 q6
 clear a7 k7
 refine ⟨⟨E_lt q7,E_lt q7⟩,?_⟩
 intro a8 k8
 have q8:=Eadd (show e 8=toE (ofE (e 7)+ofE (e 7)) from a8) q7 q7
 clear a8 k8
 refine ⟨⟨E_lt q2,E_lt q2⟩,?_⟩
 intro a9 k9
 have q9:=Emul (show e 9=toE (ofE (e 2)*ofE (e 2)) from a9) q2 q2
 clear a9 k9
 refine ⟨⟨E_lt q9,E_lt q9⟩,?_⟩
 intro a298 k298
 have q298:=Eadd (show e 298=toE (ofE (e 9)+ofE (e 9)) from a298) q9 q9
 clear a298 k298
 refine ⟨⟨E_lt q298,E_lt q9⟩,?_⟩
 intro a394 k394
 have q394:=Eadd (show e 394=toE (ofE (e 298)+ofE (e 9)) from a394) q298 q9
 clear a394 k394
 refine ⟨⟨E_lt q394,E_lt q394⟩,?_⟩
 intro a778 k778
 have q778:=Emul (show e 778=toE (ofE (e 394)*ofE (e 394)) from a778) q394 q394
 clear a778 k778
 refine ⟨⟨E_lt q8,E_lt q8⟩,?_⟩
 intro a1018 k1018
 have q1018:=Eadd (show e 1018=toE (ofE (e 8)+ofE (e 8)) from a1018) q8 q8
 clear a1018 k1018
 refine ⟨⟨E_lt q778,E_lt q1018⟩,?_⟩
 intro a1066 k1066
 have q1066:=Esub (show e 1066=toE (ofE (e 778)-ofE (e 1018)) from a1066) q778 q1018
 clear a1066 k1066
 refine ⟨⟨E_lt q5,E_lt q5⟩,?_⟩
 intro a1210 k1210
 have q1210:=Emul (show e 1210=toE (ofE (e 5)*ofE (e 5)) from a1210) q5 q5
 clear a1210 k1210
 refine ⟨⟨E_lt q1210,E_lt q1210⟩,?_⟩
 intro a1211 k1211
 have q1211:=Eadd (show e 1211=toE (ofE (e 1210)+ofE (e 1210)) from a1211) q1210 q1210
 clear a1211 k1211
 refine ⟨⟨E_lt q1211,E_lt q1211⟩,?_⟩
 intro a1212 k1212
 have q1212:=Eadd (show e 1212=toE (ofE (e 1211)+ofE (e 1211)) from a1212) q1211 q1211
 clear a1212 k1212
 refine ⟨⟨E_lt q1212,E_lt q1212⟩,?_⟩
 intro a1213 k1213
 have q1213:=Eadd (show e 1213=toE (ofE (e 1212)+ofE (e 1212)) from a1213) q1212 q1212
 clear a1213 k1213
 refine ⟨⟨E_lt q3,E_lt q4⟩,?_⟩
 intro a1214 k1214
 have q1214:=Emul (show e 1214=toE (ofE (e 3)*ofE (e 4)) from a1214) q3 q4
 clear a1214 k1214
 refine ⟨⟨E_lt q8,E_lt q1066⟩,?_⟩
 intro a1695 k1695
 have q1695:=Esub (show e 1695=toE (ofE (e 8)-ofE (e 1066)) from a1695) q8 q1066
 clear a1695 k1695
 refine ⟨⟨E_lt q394,E_lt q1695⟩,?_⟩
 intro a1743 k1743
 have q1743:=Emul (show e 1743=toE (ofE (e 394)*ofE (e 1695)) from a1743) q394 q1695
 clear a1743 k1743
 refine ⟨⟨E_lt q1743,E_lt q1213⟩,?_⟩
 intro a1839 k1839
 have q1839:=Esub (show e 1839=toE (ofE (e 1743)-ofE (e 1213)) from a1839) q1743 q1213
 clear a1839 k1839
 refine ⟨⟨E_lt q1214,E_lt q1214⟩,?_⟩
 intro a2079 k2079
 have q2079:=Eadd (show e 2079=toE (ofE (e 1214)+ofE (e 1214)) from a2079) q1214 q1214
 clear a2079 k2079
 show [e 1066,e 1839,e 2079]=_
 rw [q1066,q1839,q2079]
 rfl
theorem nz_E {x X:Int} (h:x=toE X) (hn:x≠0):¬ X%bP=0:=fun hc=>hn (h.trans (toE_zero.2 hc))
theorem z_E {x X:Int} (h:x=toE X) (hn:x=0):X%bP=0:=toE_zero.1 (h.symm.trans hn)
theorem isz_t {X:Int} (h:X%bP=0):R1.isz X=true:=by show (X%bP==0)=true;rw [h];rfl
theorem isz_f {X:Int} (h:¬ X%bP=0):¬ R1.isz X=true:=by show ¬ (X%bP==0)=true;rw [beq_iff_eq];exact h
theorem b_yes {v:Int} {p:Prop} (b:(v=1/\p)∨(v=0/\¬ p)) (h:v≠0):p:=by
 rcases b with ⟨_,h1⟩ | ⟨h1,_⟩
 ·exact h1
 ·exact absurd h1 h
theorem b_no {v:Int} {p:Prop} (b:(v=1/\p)∨(v=0/\¬ p)) (h:v=0):¬ p:=by
 rcases b with ⟨h1,_⟩ | ⟨_,h1⟩
 ·exact absurd (h1.symm.trans h) (by decide)
 ·exact h1
def tSum:Tree:=(.lett 8 .bit (.eqs [((.limb 4 0),(.lit 0)),((.limb 4 1),(.lit 0)),((.limb 4 2),(.lit 0)),((.limb 4 3),(.lit 0)),((.limb 4 4),(.lit 0)),((.limb 4 5),(.lit 0))])
(.split 8
(.ret [.var 5,.var 6,.var 7])
(.lett 9 .bit (.eqs [((.limb 7 0),(.lit 0)),((.limb 7 1),(.lit 0)),((.limb 7 2),(.lit 0)),((.limb 7 3),(.lit 0)),((.limb 7 4),(.lit 0)),((.limb 7 5),(.lit 0))])
(.split 9
 (.ret [.var 2,.var 3,.var 4])
 (.req 2 [.var 4,.var 4]
 (.lett 298 .num (.app 2 0 [.var 4,.var 4])
 (.req 2 [.var 7,.var 7]
 (.lett 634 .num (.app 2 0 [.var 7,.var 7])
 (.req 2 [.var 2,.var 634]
 (.lett 1114 .num (.app 2 0 [.var 2,.var 634])
 (.req 2 [.var 5,.var 298]
 (.lett 1402 .num (.app 2 0 [.var 5,.var 298])
 (.req 2 [.var 634,.var 7]
 (.lett 2074 .num (.app 2 0 [.var 634,.var 7])
 (.req 2 [.var 3,.var 2074]
 (.lett 2122 .num (.app 2 0 [.var 3,.var 2074])
 (.req 2 [.var 298,.var 4]
 (.lett 2602 .num (.app 2 0 [.var 298,.var 4])
 (.req 2 [.var 6,.var 2602]
 (.lett 2650 .num (.app 2 0 [.var 6,.var 2602])
 (.req 1 [.var 1402,.var 1114]
 (.lett 3082 .num (.app 1 0 [.var 1402,.var 1114])
 (.req 1 [.var 2650,.var 2122]
 (.lett 3322 .num (.app 1 0 [.var 2650,.var 2122])
 (.lett 3562 .bit (.eqs [((.limb 3082 0),(.lit 0)),((.limb 3082 1),(.lit 0)),((.limb 3082 2),(.lit 0)),((.limb 3082 3),(.lit 0)),((.limb 3082 4),(.lit 0)),((.limb 3082 5),(.lit 0))])
 (.split 3562
 (.lett 3563 .bit (.eqs [((.limb 3322 0),(.lit 0)),((.limb 3322 1),(.lit 0)),((.limb 3322 2),(.lit 0)),((.limb 3322 3),(.lit 0)),((.limb 3322 4),(.lit 0)),((.limb 3322 5),(.lit 0))])
 (.split 3563
 (.req 3 [.var 0,.var 1,.var 2,.var 3,.var 4]
 (.lett 3564 .num (.app 3 0 [.var 0,.var 1,.var 2,.var 3,.var 4])
 (.lett 3565 .num (.app 3 1 [.var 0,.var 1,.var 2,.var 3,.var 4])
 (.lett 3566 .num (.app 3 2 [.var 0,.var 1,.var 2,.var 3,.var 4])
 (.ret [.var 3564,.var 3565,.var 3566])))))
 (.ret [.var 0,.var 0,.lit 0])))
 (.req 2 [.var 3082,.var 3082]
 (.lett 3563 .num (.app 2 0 [.var 3082,.var 3082])
 (.req 2 [.var 3563,.var 3082]
 (.lett 3564 .num (.app 2 0 [.var 3563,.var 3082])
 (.req 2 [.var 1114,.var 3563]
 (.lett 3565 .num (.app 2 0 [.var 1114,.var 3563])
 (.req 2 [.var 3322,.var 3322]
 (.lett 3950 .num (.app 2 0 [.var 3322,.var 3322])
 (.req 1 [.var 3950,.var 3564]
 (.lett 4046 .num (.app 1 0 [.var 3950,.var 3564])
 (.req 0 [.var 3565,.var 3565]
 (.lett 4286 .num (.app 0 0 [.var 3565,.var 3565])
 (.req 1 [.var 4046,.var 4286]
 (.lett 4334 .num (.app 1 0 [.var 4046,.var 4286])
 (.req 1 [.var 3565,.var 4334]
 (.lett 4958 .num (.app 1 0 [.var 3565,.var 4334])
 (.req 2 [.var 3322,.var 4958]
 (.lett 5006 .num (.app 2 0 [.var 3322,.var 4958])
 (.req 2 [.var 2122,.var 3564]
 (.lett 5246 .num (.app 2 0 [.var 2122,.var 3564])
 (.req 1 [.var 5006,.var 5246]
 (.lett 5294 .num (.app 1 0 [.var 5006,.var 5246])
 (.req 2 [.var 4,.var 7]
 (.lett 5774 .num (.app 2 0 [.var 4,.var 7])
 (.req 2 [.var 3082,.var 5774]
 (.lett 5822 .num (.app 2 0 [.var 3082,.var 5774])
 (.ret [.var 4334,.var 5294,.var 5822])))))))))))))))))))))))))))))))))))))))))))))))))))))
theorem law_sum (o:Fo) (f1 f2 f3 f4 f:FuncId) (e:Nat->Int) (hk:kkHas [.num,.num,.num,.num,.num,.num,.num,.num] [e 0,e 1,e 2,e 3,e 4,e 5,e 6,e 7]) (hp:(kSum o f).pre [e 0,e 1,e 2,e 3,e 4,e 5,e 6,e 7]):tSum.says [kEAdd f1,kESub f2,kEMul f3,kTwice o f4] ⟨fun ys=>ys=(kSum o f).sem [e 0,e 1,e 2,e 3,e 4,e 5,e 6,e 7],[]⟩ e:=by
 obtain ⟨q0,⟨u2,u3,u4⟩,u5,u6,u7⟩:e 0=toE 1/\(e 2<bP/\e 3<bP/\e 4<bP)/\(e 5<bP/\e 6<bP/\e 7<bP):=hp
 obtain ⟨_,_,h2,h3,h4,h5,h6,h7,_⟩:=hk
 have k4:=h4
 have k7:=h7
 have q2:=E_of h2.1 u2
 have q3:=E_of h3.1 u3
 have q4:=E_of h4.1 u4
 have q5:=E_of h5.1 u5
 have q6:=E_of h6.1 u6
 have q7:=E_of h7.1 u7
 clear h2 h3 h4 h5 h6 h7
 obtain ⟨X,hX⟩:∃ X,X=ofE (e 2):=⟨_,rfl⟩
 obtain ⟨Y,hY⟩:∃ Y,Y=ofE (e 3):=⟨_,rfl⟩
 obtain ⟨Z,hZ⟩:∃ Z,Z=ofE (e 4):=⟨_,rfl⟩
 obtain ⟨X',hX'⟩:∃ X',X'=ofE (e 5):=⟨_,rfl⟩
 obtain ⟨Y',hY'⟩:∃ Y',Y'=ofE (e 6):=⟨_,rfl⟩
 obtain ⟨Z',hZ'⟩:∃ Z',Z'=ofE (e 7):=⟨_,rfl⟩
 have hd:(dblJ R1 (ofJ (e 2) (e 3) (e 4))).l=(dblJ R1 ⟨X,Y,Z⟩).l:=by rw [hX,hY,hZ];rfl
 have hg:(kSum o f).sem [e 0,e 1,e 2,e 3,e 4,e 5,e 6,e 7]=(sumJ R1 ⟨X,Y,Z⟩ ⟨X',Y',Z'⟩).l:=by rw [hX,hY,hZ,hX',hY',hZ'];rfl
 rw [hg]
 rw [<- hX] at q2
 rw [<- hY] at q3
 rw [<- hZ] at q4
 rw [<- hX'] at q5
 rw [<- hY'] at q6
 rw [<- hZ'] at q7
 intro a8 k8
 have b8:=c_num0 a8 k4
 clear a8 k8
 refine ⟨fun h=>?_,fun h=>?_⟩
 ·have c8:=h
  have z1:=z_E q4 (b_yes b8 c8)
  show [e 5,e 6,e 7]=_
  rw [sumJ_z1 (R:=R1) (P:=⟨X,Y,Z⟩) (Q:=⟨X',Y',Z'⟩) (isz_t z1),q5,q6,q7];rfl
 ·have c8:=h
  have z1:=nz_E q4 (b_no b8 c8)
  intro a9 k9
  have b9:=c_num0 a9 k7
  clear a9 k9
  refine ⟨fun h=>?_,fun h=>?_⟩
  ·have c9:=h
   have z2:=z_E q7 (b_yes b9 c9)
   show [e 2,e 3,e 4]=_
   rw [sumJ_z2 (R:=R1) (P:=⟨X,Y,Z⟩) (Q:=⟨X',Y',Z'⟩) (isz_f z1) (isz_t z2),q2,q3,q4];rfl
  ·have c9:=h
   have z2:=nz_E q7 (b_no b9 c9)
   refine ⟨⟨E_lt q4,E_lt q4⟩,?_⟩
   intro a298 k298
   have q298:=Emul (show e 298=toE (ofE (e 4)*ofE (e 4)) from a298) q4 q4
   clear a298 k298
   refine ⟨⟨E_lt q7,E_lt q7⟩,?_⟩
   intro a634 k634
   have q634:=Emul (show e 634=toE (ofE (e 7)*ofE (e 7)) from a634) q7 q7
   clear a634 k634
   refine ⟨⟨E_lt q2,E_lt q634⟩,?_⟩
   intro a1114 k1114
   have q1114:=Emul (show e 1114=toE (ofE (e 2)*ofE (e 634)) from a1114) q2 q634
   clear a1114 k1114
   refine ⟨⟨E_lt q5,E_lt q298⟩,?_⟩
   intro a1402 k1402
   have q1402:=Emul (show e 1402=toE (ofE (e 5)*ofE (e 298)) from a1402) q5 q298
   clear a1402 k1402
   refine ⟨⟨E_lt q634,E_lt q7⟩,?_⟩
   intro a2074 k2074
   have q2074:=Emul (show e 2074=toE (ofE (e 634)*ofE (e 7)) from a2074) q634 q7
   clear a2074 k2074
   refine ⟨⟨E_lt q3,E_lt q2074⟩,?_⟩
   intro a2122 k2122
   have q2122:=Emul (show e 2122=toE (ofE (e 3)*ofE (e 2074)) from a2122) q3 q2074
   clear a2122 k2122
   refine ⟨⟨E_lt q298,E_lt q4⟩,?_⟩
   intro a2602 k2602
   have q2602:=Emul (show e 2602=toE (ofE (e 298)*ofE (e 4)) from a2602) q298 q4
   clear a2602 k2602
   refine ⟨⟨E_lt q6,E_lt q2602⟩,?_⟩
   intro a2650 k2650
   have q2650:=Emul (show e 2650=toE (ofE (e 6)*ofE (e 2602)) from a2650) q6 q2602
   clear a2650 k2650
   refine ⟨⟨E_lt q1402,E_lt q1114⟩,?_⟩
   intro a3082 k3082
   have q3082:=Esub (show e 3082=toE (ofE (e 1402)-ofE (e 1114)) from a3082) q1402 q1114
   clear a3082
   refine ⟨⟨E_lt q2650,E_lt q2122⟩,?_⟩
   intro a3322 k3322
   have q3322:=Esub (show e 3322=toE (ofE (e 2650)-ofE (e 2122)) from a3322) q2650 q2122
   clear a3322
   intro a3562 k3562
   have b3562:=c_num0 a3562 k3082
   clear a3562 k3562
   refine ⟨fun h=>?_,fun h=>?_⟩
   ·have c3562:=h
    have z3:=z_E q3082 (b_yes b3562 c3562)
    intro a3563 k3563
    have b3563:=c_num0 a3563 k3322
    clear a3563 k3563
    refine ⟨fun h=>?_,fun h=>?_⟩
    ·have c3563:=h
     have z4:=z_E q3322 (b_yes b3563 c3563)
     refine ⟨⟨u2,u3,u4⟩,?_⟩
     intro a3564 k3564
     have s3564:e 3564=((kTwice o f4).sem [e 0,e 1,e 2,e 3,e 4]).getD 0 0:=a3564
     clear a3564 k3564
     intro a3565 k3565
     have s3565:e 3565=((kTwice o f4).sem [e 0,e 1,e 2,e 3,e 4]).getD 1 0:=a3565
     clear a3565 k3565
     intro a3566 k3566
     have s3566:e 3566=((kTwice o f4).sem [e 0,e 1,e 2,e 3,e 4]).getD 2 0:=a3566
     clear a3566 k3566
     have w3:[e 3564,e 3565,e 3566]=(dblJ R1 (ofJ (e 2) (e 3) (e 4))).l:=by rw [s3564,s3565,s3566];rfl
     clear s3564 s3565 s3566
     show [e 3564,e 3565,e 3566]=_
     rw [sumJ_dbl (R:=R1) (P:=⟨X,Y,Z⟩) (Q:=⟨X',Y',Z'⟩) (isz_f z1) (isz_f z2) (isz_t z3) (isz_t z4),<- hd]
     exact w3
    ·have c3563:=h
     have z4:=nz_E q3322 (b_no b3563 c3563)
     show [e 0,e 0,0]=_
     rw [sumJ_opp (R:=R1) (P:=⟨X,Y,Z⟩) (Q:=⟨X',Y',Z'⟩) (isz_f z1) (isz_f z2) (isz_t z3) (isz_f z4),q0];rfl
   ·have c3562:=h
    have z3:=nz_E q3082 (b_no b3562 c3562)
    refine ⟨⟨E_lt q3082,E_lt q3082⟩,?_⟩
    intro a3563 k3563
    have q3563:=Emul (show e 3563=toE (ofE (e 3082)*ofE (e 3082)) from a3563) q3082 q3082
    clear a3563 k3563
    refine ⟨⟨E_lt q3563,E_lt q3082⟩,?_⟩
    intro a3564 k3564
    have q3564:=Emul (show e 3564=toE (ofE (e 3563)*ofE (e 3082)) from a3564) q3563 q3082
    clear a3564 k3564
    refine ⟨⟨E_lt q1114,E_lt q3563⟩,?_⟩
    intro a3565 k3565
    have q3565:=Emul (show e 3565=toE (ofE (e 1114)*ofE (e 3563)) from a3565) q1114 q3563
    clear a3565 k3565
    refine ⟨⟨E_lt q3322,E_lt q3322⟩,?_⟩
    intro a3950 k3950
    have q3950:=Emul (show e 3950=toE (ofE (e 3322)*ofE (e 3322)) from a3950) q3322 q3322
    clear a3950 k3950
    refine ⟨⟨E_lt q3950,E_lt q3564⟩,?_⟩
    intro a4046 k4046
    have q4046:=Esub (show e 4046=toE (ofE (e 3950)-ofE (e 3564)) from a4046) q3950 q3564
    clear a4046 k4046
    refine ⟨⟨E_lt q3565,E_lt q3565⟩,?_⟩
    intro a4286 k4286
    have q4286:=Eadd (show e 4286=toE (ofE (e 3565)+ofE (e 3565)) from a4286) q3565 q3565
    clear a4286 k4286
    refine ⟨⟨E_lt q4046,E_lt q4286⟩,?_⟩
    intro a4334 k4334
    have q4334:=Esub (show e 4334=toE (ofE (e 4046)-ofE (e 4286)) from a4334) q4046 q4286
    clear a4334 k4334
    refine ⟨⟨E_lt q3565,E_lt q4334⟩,?_⟩
    intro a4958 k4958
    have q4958:=Esub (show e 4958=toE (ofE (e 3565)-ofE (e 4334)) from a4958) q3565 q4334
    clear a4958 k4958
    refine ⟨⟨E_lt q3322,E_lt q4958⟩,?_⟩
    intro a5006 k5006
    have q5006:=Emul (show e 5006=toE (ofE (e 3322)*ofE (e 4958)) from a5006) q3322 q4958
    clear a5006 k5006
    refine ⟨⟨E_lt q2122,E_lt q3564⟩,?_⟩
    intro a5246 k5246
    have q5246:=Emul (show e 5246=toE (ofE (e 2122)*ofE (e 3564)) from a5246) q2122 q3564
    clear a5246 k5246
    refine ⟨⟨E_lt q5006,E_lt q5246⟩,?_⟩
    intro a5294 k5294
    have q5294:=Esub (show e 5294=toE (ofE (e 5006)-ofE (e 5246)) from a5294) q5006 q5246
    clear a5294 k5294
    refine ⟨⟨E_lt q4,E_lt q7⟩,?_⟩
    intro a5774 k5774
    have q5774:=Emul (show e 5774=toE (ofE (e 4)*ofE (e 7)) from a5774) q4 q7
    clear a5774 k5774
    refine ⟨⟨E_lt q3082,E_lt q5774⟩,?_⟩
    intro a5822 k5822
    have q5822:=Emul (show e 5822=toE (ofE (e 3082)*ofE (e 5774)) from a5822) q3082 q5774
    clear a5822 k5822
    show [e 4334,e 5294,e 5822]=_
    rw [sumJ_gen (R:=R1) (P:=⟨X,Y,Z⟩) (Q:=⟨X',Y',Z'⟩) (isz_f z1) (isz_f z2) (isz_f z3)]
    rw [q4334,q5294,q5822];rfl
def Jeq (P Q:J Int):Prop:=P.x%bP=Q.x%bP/\P.y%bP=Q.y%bP/\P.z%bP=Q.z%bP
theorem Jeq.refl (P:J Int):Jeq P P:=⟨rfl,rfl,rfl⟩
theorem Jeq.symm {P Q:J Int} (h:Jeq P Q):Jeq Q P:=⟨h.1.symm,h.2.1.symm,h.2.2.symm⟩
theorem Jeq.trans {P Q S:J Int} (h:Jeq P Q) (k:Jeq Q S):Jeq P S:=⟨h.1.trans k.1,h.2.1.trans k.2.1,h.2.2.trans k.2.2⟩
theorem Jeq.l {P Q:J Int} (h:Jeq P Q):P.l=Q.l:=by unfold J.l;rw [toE_md h.1,toE_md h.2.1,toE_md h.2.2]
theorem md_self (x:Int):x%bP%bP=x%bP:=Int.emod_emod_of_dvd _ (Int.dvd_refl _)
theorem J_md (P:J Int):Jeq (J.md R1 P) P:=⟨md_self _,md_self _,md_self _⟩
theorem ofJ_eq {x y z:Int} {P:J Int} (h:[x,y,z]=P.l):Jeq (ofJ x y z) P:=by
 unfold J.l at h
 injection h with h1 h
 injection h with h2 h
 injection h with h3 h
 exact ⟨E_ofm h1,E_ofm h2,E_ofm h3⟩
theorem ofJ_l {x y z:Int} (hx:0<=x/\x<bP) (hy:0<=y/\y<bP) (hz:0<=z/\z<bP):(ofJ x y z).l=[x,y,z]:=by
 unfold ofJ J.l
 simp only [toE_ofE hx.1 hx.2,toE_ofE hy.1 hy.2,toE_ofE hz.1 hz.2]
theorem dblJ_eq {P Q:J Int} (h:Jeq P Q):Jeq (dblJ R1 P) (dblJ R1 Q):=by
 obtain ⟨hx,hy,hz⟩:=h
 simp only [Jeq,dblJ,R1]
 refine ⟨?_,?_,?_⟩ <;> repeat (first | exact hx | exact hy | exact hz | apply mdE_sub | apply mdE_add | apply mdE_mul)
theorem addJ_eq {P Q P' Q':J Int} (h:Jeq P P') (k:Jeq Q Q'):Jeq (addJ R1 P Q) (addJ R1 P' Q'):=by
 obtain ⟨hx,hy,hz⟩:=h
 obtain ⟨kx,ky,kz⟩:=k
 simp only [Jeq,addJ,R1]
 refine ⟨?_,?_,?_⟩ <;> repeat (first | exact hx | exact hy | exact hz | exact kx | exact ky | exact kz | apply mdE_sub | apply mdE_add | apply mdE_mul)
theorem hJ_eq {P Q P' Q':J Int} (h:Jeq P P') (k:Jeq Q Q'):(hJ R1 P Q)%bP=(hJ R1 P' Q')%bP:=by
 obtain ⟨hx,hy,hz⟩:=h
 obtain ⟨kx,ky,kz⟩:=k
 simp only [hJ,R1]
 repeat (first | exact hx | exact hy | exact hz | exact kx | exact ky | exact kz | apply mdE_sub | apply mdE_add | apply mdE_mul)
theorem rJ_eq {P Q P' Q':J Int} (h:Jeq P P') (k:Jeq Q Q'):(rJ R1 P Q)%bP=(rJ R1 P' Q')%bP:=by
 obtain ⟨hx,hy,hz⟩:=h
 obtain ⟨kx,ky,kz⟩:=k
 simp only [rJ,R1]
 repeat (first | exact hx | exact hy | exact hz | exact kx | exact ky | exact kz | apply mdE_sub | apply mdE_add | apply mdE_mul)
theorem isz_iff {X:Int}:R1.isz X=true↔X%bP=0:=by show (X%bP==0)=true↔_;rw [beq_iff_eq]
theorem isz_eq {X Y:Int} (h:X%bP=Y%bP):(R1.isz X=true)=(R1.isz Y=true):=by rw [isz_iff,isz_iff,h]
theorem sumJ_jeq {P Q P' Q':J Int} (h:Jeq P P') (k:Jeq Q Q'):Jeq (sumJ R1 P Q) (sumJ R1 P' Q'):=by
 rw [sumJ_eq,sumJ_eq]
 simp only [isz_eq h.2.2,isz_eq k.2.2,isz_eq (hJ_eq h k),isz_eq (rJ_eq h k)]
 split
 ·exact k
 split
 ·exact h
 split
 ·split
  ·exact dblJ_eq h
  ·exact Jeq.refl _
 ·exact addJ_eq h k
theorem tmJ_step {α:Type} {R:Rg α} {P:J α} {n:Nat} (h0:n≠0) (h:n<2^384):tmJ R P 384 n=if n%2=1 then J.md R (sumJ R (J.md R (dblJ R (tmJ R P 384 (n/2)))) P) else J.md R (dblJ R (tmJ R P 384 (n/2))):=by
 have hf:tmJ R P 384 (n/2)=tmJ R P 383 (n/2):=tmJ_fuel 383 (n/2) (by omega)
 rw [hf]
 conv=>lhs;unfold tmJ
 rw [if_neg h0]
def TimesEI (P:J Int) (n:Int):List Int->Prop
 | [i,x,y,z]=>-1<=i/\i<blen n/\[x,y,z]=(tmJ R1 P 384 (n/2^(i+1).toNat).toNat).l
 | _=>False
theorem l3 {x y z:Int} {P:J Int} (h:[x,y,z]=P.l):x=toE P.x/\y=toE P.y/\z=toE P.z:=by
 unfold J.l at h
 injection h with h1 h
 injection h with h2 h
 injection h with h3 h
 exact ⟨h1,h2,h3⟩
theorem oJ_l:(oJ R1).l=[toE 1,toE 1,0]:=by
 show [toE 1,toE 1,toE 0]=_
 rw [toE_0]
theorem p384:(2:Int)^384=N384:=by decide +kernel
theorem p384n:((2^384:Nat):Int)=N384:=by decide +kernel
theorem top_bit {n:Int} {i:Nat} (h:0<=n/\n<N384) (hi:(i:Int)<blen n):1<=n/2^i/\(n/2^i).toNat<2^384:=by
 have hq:(0:Int)<2^i:=Int.pow_pos (by decide)
 have hl:(2:Int)^i<=n:=by
  rcases Int.lt_or_le n (2^i) with hc | hc
  ·have:=blen_le i n h.1 hc;omega
  ·exact hc
 refine ⟨(Int.le_ediv_iff_mul_le hq).2 (by omega),?_⟩
 have h1:n/2^i<=n:=Int.ediv_le_self _ h.1
 have h2:((n/2^i).toNat:Int)<N384:=by
  have:=Int.ediv_nonneg h.1 (show (0:Int)<=2^i by omega)
  omega
 exact Int.ofNat_lt.1 (Int.lt_of_lt_of_le h2 (Int.le_of_eq p384n.symm))
def tTimes:Tree:=(.req 0 [.var 5]
(.lett 6 (.int .i64) (.app 0 0 [.var 5])
(.lett 7 (.int .i64) (.bin .sub .i64 (.var 6) (.lit 1))
(.loop [.var 7,.var 0,.var 0,.lit 0] [(.int .i64),.num,.num,.num] 8
(.lett 12 .bit (.cmp .geq (.var 8) (.lit 0))
(.split 12
(.req 2 [.var 0,.var 1,.var 9,.var 10,.var 11]
(.lett 13 .num (.app 2 0 [.var 0,.var 1,.var 9,.var 10,.var 11])
(.lett 14 .num (.app 2 1 [.var 0,.var 1,.var 9,.var 10,.var 11])
(.lett 15 .num (.app 2 2 [.var 0,.var 1,.var 9,.var 10,.var 11])
(.req 1 [.var 5,.var 8]
(.lett 16 (.int .i64) (.app 1 0 [.var 5,.var 8])
(.lett 17 .bit (.cmp .eql (.var 16) (.lit 1))
(.split 17
 (.req 3 [.var 0,.var 1,.var 13,.var 14,.var 15,.var 2,.var 3,.var 4]
 (.lett 18 .num (.app 3 0 [.var 0,.var 1,.var 13,.var 14,.var 15,.var 2,.var 3,.var 4])
 (.lett 19 .num (.app 3 1 [.var 0,.var 1,.var 13,.var 14,.var 15,.var 2,.var 3,.var 4])
 (.lett 20 .num (.app 3 2 [.var 0,.var 1,.var 13,.var 14,.var 15,.var 2,.var 3,.var 4])
 (.lett 21 (.int .i64) (.bin .sub .i64 (.var 8) (.lit 1))
 (.back 0 [.var 21,.var 18,.var 19,.var 20]))))))
 (.lett 18 (.int .i64) (.bin .sub .i64 (.var 8) (.lit 1))
 (.back 0 [.var 18,.var 13,.var 14,.var 15]))))))))))
(.ret [.var 9,.var 10,.var 11])))))))
theorem law_times (o:Fo) (f1 f2 f3 f4 f:FuncId) (e:Nat->Int) (hk:kkHas [.num,.num,.num,.num,.num,.num] [e 0,e 1,e 2,e 3,e 4,e 5]) (hp:(kTimes o f).pre [e 0,e 1,e 2,e 3,e 4,e 5]):tTimes.says [kWLen f1,kBit f2,kTwice o f3,kSum o f4] ⟨fun ys=>ys=(kTimes o f).sem [e 0,e 1,e 2,e 3,e 4,e 5],[]⟩ e:=by
 obtain ⟨q0,u2,u3,u4⟩:e 0=toE 1/\e 2<bP/\e 3<bP/\e 4<bP:=hp
 obtain ⟨_,_,h2,h3,h4,h5,_⟩:=hk
 have hn:0<=e 5/\e 5<N384:=h5
 obtain ⟨P,hP⟩:∃ P,P=ofJ (e 2) (e 3) (e 4):=⟨_,rfl⟩
 have hPl:[e 2,e 3,e 4]=P.l:=by rw [hP,ofJ_l ⟨h2.1,u2⟩ ⟨h3.1,u3⟩ ⟨h4.1,u4⟩]
 refine ⟨trivial,fun a6 _ a7 _=>?_⟩
 have v6:e 6=blen (e 5):=a6
 have b0:=blen_nn (e 5)
 have b1:=blen_le 384 (e 5) hn.1 (by rw [p384];exact hn.2)
 have v7:e 7=blen (e 5)-1:=by
  have:e 7=binE .sub .i64 (e 6) 1:=a7
  rw [this,v6];simp only [binE,wr];omega
 refine ⟨TimesEI P (e 5),fun | [i,_,_,_]=>(i+1).toNat | _=>0,?_,fun e' he hkk hI=>?_⟩
 ·show -1<=e 7/\e 7<blen (e 5)/\[e 0,e 0,0]=(tmJ R1 P 384 (e 5/2^(e 7+1).toNat).toNat).l
  rw [v7]
  refine ⟨by omega,by omega,?_⟩
  rw [Int.sub_add_cancel]
  have h1:e 5/2^(blen (e 5)).toNat=0:=by
   rcases Int.lt_or_le (e 5) (2^(blen (e 5)).toNat) with hc | hc
   ·exact Int.ediv_eq_zero_of_lt hn.1 hc
   ·have:=blen_gt (blen (e 5)).toNat (e 5) hc;omega
  rw [h1,q0]
  exact oJ_l.symm
 ·obtain ⟨i1,i2,i3⟩:TimesEI P (e 5) [e' 8,e' 9,e' 10,e' 11]:=hI
  rw [<- he 0 (by decide)] at q0
  rw [<- he 2 (by decide)] at u2
  rw [<- he 3 (by decide)] at u3
  rw [<- he 4 (by decide)] at u4
  rw [<- he 2 (by decide),<- he 3 (by decide),<- he 4 (by decide)] at hP hPl
  rw [<- he 5 (by decide)] at hn i2 i3 b1 ⊢
  rw [<- he 0 (by decide),<- he 1 (by decide),<- he 2 (by decide),<- he 3 (by decide),<- he 4 (by decide)]
  clear he a6 a7 v6 v7 b0 hkk
  intro a12 _
  have b12:=c_ge a12
  refine ⟨fun hs=>?_,fun hs=>?_⟩
  ·have c5:0<=e' 8:=b_yes b12 hs
   obtain ⟨n,hi⟩:=Int.eq_ofNat_of_zero_le c5
   rw [hi,show ((n:Int)+1).toNat=n+1 by omega] at i3
   rw [hi] at i2
   obtain ⟨S,hS⟩:∃ S,S=tmJ R1 P 384 (e' 5/2^(n+1)).toNat:=⟨_,rfl⟩
   rw [<- hS] at i3
   obtain ⟨w9,w10,w11⟩:=l3 i3
   refine ⟨⟨E_lt w9,E_lt w10,E_lt w11⟩,fun a13 _ a14 _ a15 _=>?_⟩
   have d1:[e' 13,e' 14,e' 15]=(dblJ R1 (ofJ (e' 9) (e' 10) (e' 11))).l:=by
    rw [show e' 13=_ from a13,show e' 14=_ from a14,show e' 15=_ from a15];rfl
   have d2:[e' 13,e' 14,e' 15]=(J.md R1 (dblJ R1 S)).l:=d1.trans ((dblJ_eq (ofJ_eq i3)).trans (J_md _).symm).l
   clear a13 a14 a15 d1
   obtain ⟨w13,w14,w15⟩:=l3 d2
   refine ⟨trivial,fun a16 _ a17 _=>?_⟩
   have hlen:blen (e' 5)<=384:=b1
   have h16:e' 16=e' 5/2^n%2:=by
    have h:e' 16=if 0<=e' 8/\e' 8<384 then e' 5/2^(e' 8).toNat%2 else 0:=a16
    rw [h,if_pos ⟨c5,by omega⟩,hi,Int.toNat_natCast]
   have hh:=halves (i:=n) hn.1
   obtain ⟨t1,t2⟩:=top_bit hn i2
   have hst:=tmJ_step (R:=R1) (P:=P) (n:=(e' 5/2^n).toNat) (by omega) t2
   rw [show (e' 5/2^n).toNat/2=(e' 5/2^(n+1)).toNat by omega,<- hS] at hst
   have b17:=c_eq a17
   refine ⟨fun hs2=>?_,fun hs2=>?_⟩
   ·have c17:e' 16=1:=b_yes b17 hs2
    refine ⟨⟨q0,⟨E_lt w13,E_lt w14,E_lt w15⟩,u2,u3,u4⟩,fun a18 _ a19 _ a20 _ a21 _=>?_⟩
    have g1:[e' 18,e' 19,e' 20]=(sumJ R1 (ofJ (e' 13) (e' 14) (e' 15)) (ofJ (e' 2) (e' 3) (e' 4))).l:=by
     rw [show e' 18=_ from a18,show e' 19=_ from a19,show e' 20=_ from a20];rfl
    rw [<- hP] at g1
    have g2:=g1.trans ((sumJ_jeq (ofJ_eq d2) (Jeq.refl P)).trans (J_md _).symm).l
    have h21:e' 21=n-1:=by
     have:e' 21=binE .sub .i64 (e' 8) 1:=a21
     rw [this,hi];simp only [binE,wr];omega
    show TimesEI P (e' 5) [e' 21,e' 18,e' 19,e' 20]/\(e' 21+1).toNat<(e' 8+1).toNat
    rw [h21,hi]
    refine ⟨⟨by omega,by omega,?_⟩,by omega⟩
    rw [show ((n:Int)-1+1).toNat=n by omega,hst,if_pos (by omega)]
    exact g2
   ·have c17:¬ e' 16=1:=b_no b17 hs2
    intro a18 _
    have h18:e' 18=n-1:=by
     have:e' 18=binE .sub .i64 (e' 8) 1:=a18
     rw [this,hi];simp only [binE,wr];omega
    show TimesEI P (e' 5) [e' 18,e' 13,e' 14,e' 15]/\(e' 18+1).toNat<(e' 8+1).toNat
    rw [h18,hi]
    refine ⟨⟨by omega,by omega,?_⟩,by omega⟩
    rw [show ((n:Int)-1+1).toNat=n by omega,hst,if_neg (by omega)]
    exact d2
  ·have c5:e' 8=-1:=by have:¬ e' 8≥0:=b_no b12 hs;omega
   rw [c5] at i3
   show [e' 9,e' 10,e' 11]=(tmJ R1 (ofJ (e' 2) (e' 3) (e' 4)) 384 (e' 5).toNat).l
   rw [i3,<- hP]
   show (tmJ R1 P 384 (e' 5/1).toNat).l=_
   rw [Int.ediv_one]
def lowJ (P:J Int):Int×Int×Int :=
 if P.z%bP=0 then (0,0,1) else
 let i:=P.z^(bP-2).toNat
 (P.x*(i*i),P.y*(i*i*i),0)
def lowE (P:J Int):List Int:=[toE (lowJ P).1,toE (lowJ P).2.1,(lowJ P).2.2]
def onE (x y z:Int):Prop:=if z=0 then ofE y*ofE y%bP=(ofE x*ofE x*ofE x+4)%bP else x=0/\y=0
def rsE (x y z:Int):J Int:=if z=0 then ⟨ofE x,ofE y,1⟩ else oJ R1
def onV (x y z:Int):Prop:=(x<bP/\y<bP)/\if z=0 then y*y%bP=(x*x*x+4)%bP else x=0/\y=0
def rsV (x y z:Int):J Int:=if z=0 then ⟨x,y,1⟩ else oJ R1
def inG (x y z:Int):Prop:=onV x y z/\(tmJ R1 (rsV x y z) 384 rGreat.toNat).z%bP=0
open Classical in
noncomputable def bj (p:Prop):Int:=if p then 1 else 0
theorem bj_t {p:Prop} (h:p):bj p=1:=if_pos h
theorem bj_f {p:Prop} (h:¬ p):bj p=0:=if_neg h
theorem bj_of {v:Int} {p:Prop} (b:(v=1/\p)∨(v=0/\¬ p)):v=bj p:=by
 rcases b with ⟨h,k⟩ | ⟨h,k⟩
 ·rw [h,bj_t k]
 ·rw [h,bj_f k]
theorem bj_nz {v:Int} {p:Prop} (h:v=bj p) (hn:v≠0):p:=by
 by_cases hp:p
 ·exact hp
 ·exact absurd (h.trans (bj_f hp)) hn
theorem bj_z {v:Int} {p:Prop} (h:v=bj p) (hn:v=0):¬ p:=fun hp=>by
 rw [bj_t hp,hn] at h;exact absurd h (by decide)
theorem bj_iff {p q:Prop} (h:p↔q):bj p=bj q:=by rw [propext h]
noncomputable def kLower (o:Fo) (f:FuncId):K:={fn:=f,ext:=false,ins:=[.agg o.ls,.agg ls3],outs:=[.agg lsPl],pre:=fun | [_,_,x,y,z]=>x<bP/\y<bP/\z<bP | _=>False,sem:=fun | [_,_,x,y,z]=>lowE (ofJ x y z) | _=>[] }
noncomputable def kOn (o:Fo) (f:FuncId):K:={fn:=f,ext:=false,ins:=[.agg o.ls,.agg lsPl],outs:=[oB],pre:=fun | [_,b,x,y,_]=>b=toE 4/\x<bP/\y<bP | _=>False,sem:=fun | [_,_,x,y,z]=>[bj (onE x y z)] | _=>[] }
def kPNeg (o:Fo) (f:FuncId):K:={fn:=f,ext:=false,ins:=[.agg o.ls,.agg lsPl],outs:=[.agg lsPl],pre:=fun | [_,_,_,y,_]=>y<bP | _=>False,sem:=fun | [_,_,x,y,z]=>[x,toE (-ofE y),z] | _=>[] }
noncomputable def kPIn (o:Fo) (f:FuncId):K:={fn:=f,ext:=false,ins:=[.agg o.ls,.agg lsPl],outs:=[oB],pre:=fun | [u,b,x,y,_]=>u=toE 1/\b=toE 4/\x<bP/\y<bP | _=>False,sem:=fun | [_,_,x,y,z]=>[bj (onE x y z/\(tmJ R1 (rsE x y z) 384 rGreat.toNat).z%bP=0)] | _=>[] }
def kMOrder (f:FuncId):K:={fn:=f,ext:=false,ins:=[],outs:=[oN],pre:=fun _=>True,sem:=fun _=>[rGreat] }
def kMBase (f:FuncId):K:={fn:=f,ext:=false,ins:=[],outs:=[oN],pre:=fun _=>True,sem:=fun _=>[bP] }
def kIn1 (f:FuncId):K:={fn:=f,ext:=false,ins:=[.agg lsPl],outs:=[.agg lsPl],pre:=fun _=>True,sem:=fun | [x,y,z]=>[toE x,toE y,z] | _=>[] }
def kOut1 (f:FuncId):K:={fn:=f,ext:=false,ins:=[.agg lsPl],outs:=[.agg lsPl],pre:=fun | [x,y,_]=>x<bP/\y<bP | _=>False,sem:=fun | [x,y,z]=>[ofE x,ofE y,z] | _=>[] }
noncomputable def kBelow1 (f:FuncId):K:={fn:=f,ext:=false,ins:=[.agg lsPl],outs:=[oB],pre:=fun _=>True,sem:=fun | [x,y,_]=>[bj (x<bP/\y<bP)] | _=>[] }
noncomputable def kCheck1 (f:FuncId):K:={fn:=f,ext:=false,ins:=[.agg lsPl],outs:=[oB],pre:=fun _=>True,sem:=fun | [x,y,z]=>[bj (onV x y z)] | _=>[] }
noncomputable def kInG1 (f:FuncId):K:={fn:=f,ext:=false,ins:=[.agg lsPl],outs:=[oB],pre:=fun _=>True,sem:=fun | [x,y,z]=>[bj (inG x y z)] | _=>[] }
open Classical in
noncomputable def negV (x y z:Int):List Int:=if onV x y z then [x,(-y)%bP,z,0] else [0,0,0,5]
theorem negV_t {x y z:Int} (h:onV x y z):negV x y z=[x,(-y)%bP,z,0]:=if_pos h
theorem negV_f {x y z:Int} (h:¬ onV x y z):negV x y z=[0,0,0,5]:=if_neg h
noncomputable def kNeg1 (f:FuncId):K:={fn:=f,ext:=false,ins:=[.agg lsPl],outs:=[.agg lsPl,oI],pre:=fun _=>True,sem:=fun | [x,y,z]=>negV x y z | _=>[] }
theorem lowJ_eq {P Q:J Int} (h:Jeq P Q):lowE P=lowE Q:=by
 unfold lowE lowJ
 rw [h.2.2]
 split
 ·rfl
 ·simp only
  have hi:=mdE_pow h.2.2 (bP-2).toNat
  rw [toE_md (mdE_mul h.1 (mdE_mul hi hi)),toE_md (mdE_mul h.2.1 (mdE_mul (mdE_mul hi hi) hi))]
def tLower:Tree:=(.lett 5 .bit (.eqs [((.limb 4 0),(.lit 0)),((.limb 4 1),(.lit 0)),((.limb 4 2),(.lit 0)),((.limb 4 3),(.lit 0)),((.limb 4 4),(.lit 0)),((.limb 4 5),(.lit 0))])
(.split 5
(.ret [.lit 0,.lit 0,.lit 1])
(.req 1 [.var 4]
(.lett 6 .num (.app 1 0 [.var 4])
(.req 0 [.var 6,.var 6]
(.lett 7 .num (.app 0 0 [.var 6,.var 6])
(.req 0 [.var 2,.var 7]
(.lett 248 .num (.app 0 0 [.var 2,.var 7])
(.req 0 [.var 7,.var 6]
(.lett 680 .num (.app 0 0 [.var 7,.var 6])
(.req 0 [.var 3,.var 680]
(.lett 728 .num (.app 0 0 [.var 3,.var 680])
(.ret [.var 248,.var 728,.lit 0])))))))))))))
theorem law_lower (o:Fo) (f1 f2 f:FuncId) (e:Nat->Int) (hk:kkHas [.num,.num,.num,.num,.num] [e 0,e 1,e 2,e 3,e 4]) (hp:(kLower o f).pre [e 0,e 1,e 2,e 3,e 4]):tLower.says [kEMul f1,kEInv f2] ⟨fun ys=>ys=(kLower o f).sem [e 0,e 1,e 2,e 3,e 4],[]⟩ e:=by
 obtain ⟨u2,u3,u4⟩:e 2<bP/\e 3<bP/\e 4<bP:=hp
 obtain ⟨_,_,h2,h3,h4,_⟩:=hk
 have k4:=h4
 have q2:=E_of h2.1 u2
 have q3:=E_of h3.1 u3
 have q4:=E_of h4.1 u4
 clear u2 u3 u4 h2 h3 h4
 show tLower.says _ ⟨fun ys=>ys=lowE (ofJ (e 2) (e 3) (e 4)),[]⟩ e
 intro a5 k5
 have b5:=c_num0 a5 k4
 clear a5 k5
 refine ⟨fun h=>?_,fun h=>?_⟩
 ·have c5:=h
  have z1:=z_E q4 (b_yes b5 c5)
  show [0,0,1]=_
  unfold lowE lowJ
  rw [show (ofJ (e 2) (e 3) (e 4)).z=ofE (e 4) from rfl,if_pos z1,toE_0]
 ·have c5:=h
  have z1:=nz_E q4 (b_no b5 c5)
  refine ⟨(E_lt q4),?_⟩
  intro a6 k6
  have q6:=Epow (show e 6=toE (ofE (e 4)^(bP-2).toNat) from a6) q4
  clear a6 k6
  refine ⟨⟨E_lt q6,E_lt q6⟩,?_⟩
  intro a7 k7
  have q7:=Emul (show e 7=toE (ofE (e 6)*ofE (e 6)) from a7) q6 q6
  clear a7 k7
  refine ⟨⟨E_lt q2,E_lt q7⟩,?_⟩
  intro a248 k248
  have q248:=Emul (show e 248=toE (ofE (e 2)*ofE (e 7)) from a248) q2 q7
  clear a248 k248
  refine ⟨⟨E_lt q7,E_lt q6⟩,?_⟩
  intro a680 k680
  have q680:=Emul (show e 680=toE (ofE (e 7)*ofE (e 6)) from a680) q7 q6
  clear a680 k680
  refine ⟨⟨E_lt q3,E_lt q680⟩,?_⟩
  intro a728 k728
  have q728:=Emul (show e 728=toE (ofE (e 3)*ofE (e 680)) from a728) q3 q680
  clear a728 k728
  show [e 248,e 728,0]=_
  unfold lowE lowJ
  rw [show (ofJ (e 2) (e 3) (e 4)).z=ofE (e 4) from rfl,if_neg z1,q248,q728];rfl
def tOn:Tree:=(.split 4
(.lett 5 .bit (.eqs [((.limb 2 0),(.lit 0)),((.limb 2 1),(.lit 0)),((.limb 2 2),(.lit 0)),((.limb 2 3),(.lit 0)),((.limb 2 4),(.lit 0)),((.limb 2 5),(.lit 0))])
(.split 5
 (.lett 6 .bit (.eqs [((.limb 3 0),(.lit 0)),((.limb 3 1),(.lit 0)),((.limb 3 2),(.lit 0)),((.limb 3 3),(.lit 0)),((.limb 3 4),(.lit 0)),((.limb 3 5),(.lit 0))])
 (.ret [.var 6]))
 (.ret [.lit 0])))
(.req 1 [.var 3,.var 3]
(.lett 293 .num (.app 1 0 [.var 3,.var 3])
(.req 1 [.var 2,.var 2]
(.lett 821 .num (.app 1 0 [.var 2,.var 2])
(.req 1 [.var 821,.var 2]
(.lett 965 .num (.app 1 0 [.var 821,.var 2])
(.req 0 [.var 965,.var 1]
(.lett 1109 .num (.app 0 0 [.var 965,.var 1])
(.lett 1157 .bit (.eqs [((.limb 293 0),(.limb 1109 0)),((.limb 293 1),(.limb 1109 1)),((.limb 293 2),(.limb 1109 2)),((.limb 293 3),(.limb 1109 3)),((.limb 293 4),(.limb 1109 4)),((.limb 293 5),(.limb 1109 5))])
(.ret [.var 1157])))))))))))
theorem law_on (o:Fo) (f1 f2 f:FuncId) (e:Nat->Int) (hk:kkHas [.num,.num,.num,.num,.bit] [e 0,e 1,e 2,e 3,e 4]) (hp:(kOn o f).pre [e 0,e 1,e 2,e 3,e 4]):tOn.says [kEAdd f1,kEMul f2] ⟨fun ys=>ys=(kOn o f).sem [e 0,e 1,e 2,e 3,e 4],[]⟩ e:=by
 obtain ⟨q1,u2,u3⟩:e 1=toE 4/\e 2<bP/\e 3<bP:=hp
 obtain ⟨_,_,h2,h3,h4,_⟩:=hk
 have k2:=h2
 have k3:=h3
 have q2:=E_of h2.1 u2
 have q3:=E_of h3.1 u3
 clear u2 u3 h2 h3 h4
 show tOn.says _ ⟨fun ys=>ys=[bj (onE (e 2) (e 3) (e 4))],[]⟩ e
 refine ⟨fun h=>?_,fun h=>?_⟩
 ·have c4:=h
  intro a5 k5
  have b5:=c_num0 a5 k2
  clear a5 k5
  refine ⟨fun h=>?_,fun h=>?_⟩
  ·have c5:=h
   have z1:=b_yes b5 c5
   intro a6 k6
   have b6:=c_num0 a6 k3
   clear a6 k6
   show [e 6]=_
   rw [bj_of b6]
   exact congrArg (fun x=>[x]) (bj_iff (by unfold onE;rw [if_neg c4];exact ⟨fun h=>⟨z1,h⟩,fun h=>h.2⟩))
  ·have c5:=h
   have z1:=b_no b5 c5
   show [(0:Int)]=_
   rw [bj_f (by unfold onE;rw [if_neg c4];exact fun h=>z1 h.1)]
 ·have c4:=h
  refine ⟨⟨E_lt q3,E_lt q3⟩,?_⟩
  intro a293 k293
  have q293:=Emul (show e 293=toE (ofE (e 3)*ofE (e 3)) from a293) q3 q3
  clear a293
  refine ⟨⟨E_lt q2,E_lt q2⟩,?_⟩
  intro a821 k821
  have q821:=Emul (show e 821=toE (ofE (e 2)*ofE (e 2)) from a821) q2 q2
  clear a821 k821
  refine ⟨⟨E_lt q821,E_lt q2⟩,?_⟩
  intro a965 k965
  have q965:=Emul (show e 965=toE (ofE (e 821)*ofE (e 2)) from a965) q821 q2
  clear a965 k965
  refine ⟨⟨E_lt q965,E_lt q1⟩,?_⟩
  intro a1109 k1109
  have q1109:=Eadd (show e 1109=toE (ofE (e 965)+ofE (e 1)) from a1109) q965 q1
  clear a1109
  intro a1157 k1157
  have b1157:=c_num a1157 k293 k1109
  clear a1157 k1157
  show [e 1157]=_
  rw [bj_of b1157]
  refine congrArg (fun x=>[x]) (bj_iff ?_)
  unfold onE
  rw [if_pos c4,q293,q1109]
  exact ⟨fun h=>toE_inj h,fun h=>toE_md h⟩
def tPNeg:Tree:=(.req 0 [.lit 0,.var 3]
(.lett 5 .num (.app 0 0 [.lit 0,.var 3])
(.ret [.var 2,.var 5,.var 4])))
theorem law_pNeg (o:Fo) (f1 f:FuncId) (e:Nat->Int) (hk:kkHas [.num,.num,.num,.num,.bit] [e 0,e 1,e 2,e 3,e 4]) (hp:(kPNeg o f).pre [e 0,e 1,e 2,e 3,e 4]):tPNeg.says [kESub f1] ⟨fun ys=>ys=(kPNeg o f).sem [e 0,e 1,e 2,e 3,e 4],[]⟩ e:=by
 have u3:e 3<bP:=hp
 have q3:=E_of hk.2.2.2.1.1 u3
 refine ⟨⟨bP_pos,u3⟩,fun a5 _=>?_⟩
 show [e 2,e 5,e 4]=[e 2,toE (-ofE (e 3)),e 4]
 rw [show e 5=toE (ofE 0-ofE (e 3)) from a5,show ofE 0=0 by unfold ofE;rw [Int.zero_mul];rfl,Int.zero_sub]
theorem rs_l {x y z:Int} (hx:0<=x/\x<bP) (hy:0<=y/\y<bP):(if z=0 then [x,y,toE 1] else [toE 1,toE 1,0])=(rsE x y z).l:=by
 unfold rsE
 split
 ·unfold J.l
  rw [toE_ofE hx.1 hx.2,toE_ofE hy.1 hy.2]
 ·exact oJ_l.symm
theorem tmJ_jeq {P Q:J Int} (h:Jeq P Q):∀ (k n:Nat),Jeq (tmJ R1 P k n) (tmJ R1 Q k n)
 | 0,n=>Jeq.refl _
 | k+1,n=>by
  have ih:=tmJ_jeq h k (n/2)
  have e1:∀ P,tmJ R1 P (k+1) n=if n=0 then oJ R1 else (if n%2=1 then J.md R1 (sumJ R1 (J.md R1 (dblJ R1 (tmJ R1 P k (n/2)))) P) else J.md R1 (dblJ R1 (tmJ R1 P k (n/2)))):=fun P=>rfl
  rw [e1,e1]
  have hd:Jeq (J.md R1 (dblJ R1 (tmJ R1 P k (n/2)))) (J.md R1 (dblJ R1 (tmJ R1 Q k (n/2)))):=(J_md _).trans ((dblJ_eq ih).trans (J_md _).symm)
  split
  ·exact Jeq.refl _
  ·split
   ·exact (J_md _).trans ((sumJ_jeq hd h).trans (J_md _).symm)
   ·exact hd
theorem lowE_z (P:J Int):lowE P=[toE (lowJ P).1,toE (lowJ P).2.1,if P.z%bP=0 then 1 else 0]:=by
 unfold lowE lowJ
 split <;> rfl
def tPIn:Tree:=(.req 0 [.var 0,.var 1,.var 2,.var 3,.var 4]
(.lett 101 .bit (.app 0 0 [.var 0,.var 1,.var 2,.var 3,.var 4])
(.split 101
(.req 1 [.var 0,.var 1,.var 2,.var 3,.var 4]
(.lett 389 .num (.app 1 0 [.var 0,.var 1,.var 2,.var 3,.var 4])
(.lett 390 .num (.app 1 1 [.var 0,.var 1,.var 2,.var 3,.var 4])
(.lett 391 .num (.app 1 2 [.var 0,.var 1,.var 2,.var 3,.var 4])
(.req 2 []
(.lett 437 .num (.app 2 0 [])
(.req 3 [.var 0,.var 1,.var 389,.var 390,.var 391,.var 437]
(.lett 485 .num (.app 3 0 [.var 0,.var 1,.var 389,.var 390,.var 391,.var 437])
(.lett 486 .num (.app 3 1 [.var 0,.var 1,.var 389,.var 390,.var 391,.var 437])
(.lett 487 .num (.app 3 2 [.var 0,.var 1,.var 389,.var 390,.var 391,.var 437])
(.req 4 [.var 0,.var 1,.var 485,.var 486,.var 487]
(.lett 533 .num (.app 4 0 [.var 0,.var 1,.var 485,.var 486,.var 487])
(.lett 534 .num (.app 4 1 [.var 0,.var 1,.var 485,.var 486,.var 487])
(.lett 535 .bit (.app 4 2 [.var 0,.var 1,.var 485,.var 486,.var 487])
(.ret [.var 535])))))))))))))))
(.ret [.lit 0]))))
theorem law_pIn (o:Fo) (f1 f2 f3 f4 f5 f:FuncId) (e:Nat->Int) (hk:kkHas [.num,.num,.num,.num,.bit] [e 0,e 1,e 2,e 3,e 4]) (hp:(kPIn o f).pre [e 0,e 1,e 2,e 3,e 4]):tPIn.says [kOn o f1,kRaise o f2,kMOrder f3,kTimes o f4,kLower o f5] ⟨fun ys=>ys=(kPIn o f).sem [e 0,e 1,e 2,e 3,e 4],[]⟩ e:=by
 obtain ⟨q0,q1,u2,u3⟩:e 0=toE 1/\e 1=toE 4/\e 2<bP/\e 3<bP:=hp
 obtain ⟨_,_,h2,h3,h4,_⟩:=hk
 show tPIn.says _ ⟨fun ys=>ys=[bj (onE (e 2) (e 3) (e 4)/\(tmJ R1 (rsE (e 2) (e 3) (e 4)) 384 rGreat.toNat).z%bP=0)],[]⟩ e
 refine ⟨⟨q1,u2,u3⟩,?_⟩
 intro a101 k101
 have s101:e 101=((kOn o f1).sem [e 0,e 1,e 2,e 3,e 4]).getD 0 0:=a101
 clear a101 k101
 have v101:e 101=bj (onE (e 2) (e 3) (e 4)):=s101
 clear s101
 refine ⟨fun h=>?_,fun h=>?_⟩
 ·have c101:=h
  refine ⟨trivial,?_⟩
  intro a389 k389
  have s389:e 389=((kRaise o f2).sem [e 0,e 1,e 2,e 3,e 4]).getD 0 0:=a389
  clear a389 k389
  intro a390 k390
  have s390:e 390=((kRaise o f2).sem [e 0,e 1,e 2,e 3,e 4]).getD 1 0:=a390
  clear a390 k390
  intro a391 k391
  have s391:e 391=((kRaise o f2).sem [e 0,e 1,e 2,e 3,e 4]).getD 2 0:=a391
  clear a391 k391
  have w1:[e 389,e 390,e 391]=(rsE (e 2) (e 3) (e 4)).l:=by
   rw [<- rs_l ⟨h2.1,u2⟩ ⟨h3.1,u3⟩,s389,s390,s391,<- q0]
   show [(if e 4=0 then [e 2,e 3,e 0] else [e 0,e 0,0]).getD 0 0,(if e 4=0 then [e 2,e 3,e 0] else [e 0,e 0,0]).getD 1 0,(if e 4=0 then [e 2,e 3,e 0] else [e 0,e 0,0]).getD 2 0]=_
   split <;> rfl
  obtain ⟨w389,w390,w391⟩:=l3 w1
  clear s389 s390 s391
  refine ⟨trivial,?_⟩
  intro a437 k437
  have s437:e 437=((kMOrder f3).sem []).getD 0 0:=a437
  clear a437 k437
  have v437:e 437=rGreat:=s437
  clear s437
  refine ⟨⟨q0,E_lt w389,E_lt w390,E_lt w391⟩,?_⟩
  intro a485 k485
  have s485:e 485=((kTimes o f4).sem [e 0,e 1,e 389,e 390,e 391,e 437]).getD 0 0:=a485
  clear a485 k485
  intro a486 k486
  have s486:e 486=((kTimes o f4).sem [e 0,e 1,e 389,e 390,e 391,e 437]).getD 1 0:=a486
  clear a486 k486
  intro a487 k487
  have s487:e 487=((kTimes o f4).sem [e 0,e 1,e 389,e 390,e 391,e 437]).getD 2 0:=a487
  clear a487 k487
  have w2:[e 485,e 486,e 487]=(tmJ R1 (ofJ (e 389) (e 390) (e 391)) 384 (e 437).toNat).l:=by rw [s485,s486,s487];rfl
  rw [v437] at w2
  have w2:=w2.trans (tmJ_jeq (ofJ_eq w1) 384 _).l
  obtain ⟨w485,w486,w487⟩:=l3 w2
  clear s485 s486 s487
  refine ⟨⟨E_lt w485,E_lt w486,E_lt w487⟩,?_⟩
  intro a533 k533
  have s533:e 533=((kLower o f5).sem [e 0,e 1,e 485,e 486,e 487]).getD 0 0:=a533
  clear a533 k533
  intro a534 k534
  have s534:e 534=((kLower o f5).sem [e 0,e 1,e 485,e 486,e 487]).getD 1 0:=a534
  clear a534 k534
  intro a535 k535
  have s535:e 535=((kLower o f5).sem [e 0,e 1,e 485,e 486,e 487]).getD 2 0:=a535
  clear a535 k535
  have w3:e 535=(lowE (ofJ (e 485) (e 486) (e 487))).getD 2 0:=s535
  rw [lowJ_eq (ofJ_eq w2),lowE_z] at w3
  clear s533 s534 s535
  show [e 535]=_
  have hon:=bj_nz v101 c101
  rw [show e 535=_ from w3]
  show [if (tmJ R1 (rsE (e 2) (e 3) (e 4)) 384 rGreat.toNat).z%bP=0 then (1:Int) else 0]=_
  split
  ·rename_i h
   rw [bj_t ⟨hon,h⟩]
  ·rename_i h
   rw [bj_f fun hh=>h hh.2]
 ·have c101:=h
  show [(0:Int)]=_
  rw [bj_f fun hh=>bj_z v101 c101 hh.1]
def tMOrder:Tree:=(.ret [.lit 52435875175126190479447740508185965837690552500527637822603658699938581184513])
theorem law_mOrder (f:FuncId) (e:Nat->Int):tMOrder.says [] ⟨fun ys=>ys=(kMOrder f).sem [],[]⟩ e:=rfl
def tMBase:Tree:=(.ret [.lit 4002409555221667393417789825735904156556882819939007885332058136124031650490837864442687629129015664037894272559787])
theorem law_mBase (f:FuncId) (e:Nat->Int):tMBase.says [] ⟨fun ys=>ys=(kMBase f).sem [],[]⟩ e:=rfl
def tIn1:Tree:=(.req 0 [.var 0]
(.lett 99 .num (.app 0 0 [.var 0])
(.req 0 [.var 1]
(.lett 243 .num (.app 0 0 [.var 1])
(.ret [.var 99,.var 243,.var 2])))))
theorem law_in1 (f1 f:FuncId) (e:Nat->Int):tIn1.says [kETo f1] ⟨fun ys=>ys=(kIn1 f).sem [e 0,e 1,e 2],[]⟩ e:=by
 refine ⟨trivial,fun a1 _=>⟨trivial,fun a2 _=>?_⟩⟩
 show [e 99,e 243,e 2]=[toE (e 0),toE (e 1),e 2]
 rw [show e 99=toE (e 0) from a1,show e 243=toE (e 1) from a2]
def tOut1:Tree:=(.req 0 [.var 0]
(.lett 99 .num (.app 0 0 [.var 0])
(.req 0 [.var 1]
(.lett 243 .num (.app 0 0 [.var 1])
(.ret [.var 99,.var 243,.var 2])))))
theorem law_out1 (f1 f:FuncId) (e:Nat->Int) (hp:(kOut1 f).pre [e 0,e 1,e 2]):tOut1.says [kEFrom f1] ⟨fun ys=>ys=(kOut1 f).sem [e 0,e 1,e 2],[]⟩ e:=by
 obtain ⟨u0,u1⟩:e 0<bP/\e 1<bP:=hp
 refine ⟨u0,fun a1 _=>⟨u1,fun a2 _=>?_⟩⟩
 show [e 99,e 243,e 2]=[ofE (e 0),ofE (e 1),e 2]
 rw [show e 99=ofE (e 0) from a1,show e 243=ofE (e 1) from a2]
theorem cmpV_lt {v a b:Int} (h:v=if a<b then -1 else if a=b then 0 else 1):v<0↔a<b:=by
 rw [h];split
 ·rename_i h1;exact ⟨fun _=>h1,fun _=>by decide⟩
 ·rename_i h1;split <;> exact ⟨fun h2=>absurd h2 (by decide),fun h2=>absurd h2 h1⟩
def tBelow1:Tree:=(.req 1 []
(.lett 51 .num (.app 1 0 [])
(.req 0 [.var 0,.var 51]
(.lett 99 (.int .i64) (.app 0 0 [.var 0,.var 51])
(.lett 147 .bit (.cmp .lss (.var 99) (.lit 0))
(.split 147
(.req 1 []
(.lett 291 .num (.app 1 0 [])
(.req 0 [.var 1,.var 291]
(.lett 339 (.int .i64) (.app 0 0 [.var 1,.var 291])
(.lett 387 .bit (.cmp .lss (.var 339) (.lit 0))
(.ret [.var 387]))))))
(.ret [.lit 0])))))))
theorem law_below1 (f1 f2 f:FuncId) (e:Nat->Int):tBelow1.says [kWCmp f1,kMBase f2] ⟨fun ys=>ys=(kBelow1 f).sem [e 0,e 1,e 2],[]⟩ e:=by
 show tBelow1.says _ ⟨fun ys=>ys=[bj (e 0<bP/\e 1<bP)],[]⟩ e
 refine ⟨trivial,?_⟩
 intro a51 k51
 have s51:e 51=((kMBase f2).sem []).getD 0 0:=a51
 clear a51 k51
 have v51:e 51=bP:=s51
 clear s51
 refine ⟨trivial,?_⟩
 intro a99 k99
 have s99:e 99=((kWCmp f1).sem [e 0,e 51]).getD 0 0:=a99
 clear a99 k99
 have v99:e 99<0↔e 0<e 51:=cmpV_lt s99
 clear s99
 intro a147 k147
 have b147:=c_lt a147
 simp only [ev_var,ev_lit,ev_limb] at b147
 clear a147 k147
 refine ⟨fun h=>?_,fun h=>?_⟩
 ·have c147:=h
  refine ⟨trivial,?_⟩
  intro a291 k291
  have s291:e 291=((kMBase f2).sem []).getD 0 0:=a291
  clear a291 k291
  have v291:e 291=bP:=s291
  clear s291
  refine ⟨trivial,?_⟩
  intro a339 k339
  have s339:e 339=((kWCmp f1).sem [e 1,e 291]).getD 0 0:=a339
  clear a339 k339
  have v339:e 339<0↔e 1<e 291:=cmpV_lt s339
  clear s339
  intro a387 k387
  have b387:=c_lt a387
  simp only [ev_var,ev_lit,ev_limb] at b387
  clear a387 k387
  show [e 387]=_
  rw [bj_of b387]
  refine congrArg (fun x=>[x]) (bj_iff ?_)
  rw [v339,v291,<- v51,<- v99]
  exact ⟨fun h=>⟨b_yes b147 c147,h⟩,fun h=>h.2⟩
 ·have c147:=h
  show [(0:Int)]=_
  rw [bj_f]
  rw [<- v51,<- v99]
  exact fun h=>b_no b147 c147 h.1
theorem lt_md {x:Int} (hx:0<=x/\x<bP):ofE (toE x)=x:=by rw [ofE_toE];exact Int.emod_eq_of_lt hx.1 hx.2
theorem onE_to {x y z:Int} (hx:0<=x/\x<bP) (hy:0<=y/\y<bP):onE (toE x) (toE y) z↔onV x y z:=by
 unfold onE onV
 rw [lt_md hx,lt_md hy]
 split
 ·exact ⟨fun h=>⟨⟨hx.2,hy.2⟩,h⟩,fun h=>h.2⟩
 ·refine ⟨fun ⟨h1,h2⟩=>⟨⟨hx.2,hy.2⟩,?_,?_⟩,fun ⟨_,h1,h2⟩=>by rw [h1,h2];exact ⟨toE_0,toE_0⟩⟩
  ·have:=toE_zero.1 h1;rwa [Int.emod_eq_of_lt hx.1 hx.2] at this
  ·have:=toE_zero.1 h2;rwa [Int.emod_eq_of_lt hy.1 hy.2] at this
theorem rsE_to {x y z:Int} (hx:0<=x/\x<bP) (hy:0<=y/\y<bP):rsE (toE x) (toE y) z=rsV x y z:=by
 unfold rsE rsV
 rw [lt_md hx,lt_md hy]
def tCheck1:Tree:=(.req 0 [.var 0,.var 1,.var 2]
(.lett 51 .bit (.app 0 0 [.var 0,.var 1,.var 2])
(.split 51
(.req 1 []
(.lett 147 .num (.app 1 0 [])
(.lett 148 .num (.app 1 1 [])
(.req 2 [.var 0,.var 1,.var 2]
(.lett 243 .num (.app 2 0 [.var 0,.var 1,.var 2])
(.lett 244 .num (.app 2 1 [.var 0,.var 1,.var 2])
(.lett 245 .bit (.app 2 2 [.var 0,.var 1,.var 2])
(.req 3 [.var 147,.var 148,.var 243,.var 244,.var 245]
(.lett 291 .bit (.app 3 0 [.var 147,.var 148,.var 243,.var 244,.var 245])
(.ret [.var 291]))))))))))
(.ret [.lit 0]))))
theorem law_check1 (o:Fo) (f1 f2 f3 f4 f:FuncId) (e:Nat->Int) (hk:kkHas [.num,.num,.bit] [e 0,e 1,e 2]):tCheck1.says [kBelow1 f1,kFirst o f2,kIn1 f3,kOn o f4] ⟨fun ys=>ys=(kCheck1 f).sem [e 0,e 1,e 2],[]⟩ e:=by
 have h0:0<=e 0:=hk.1.1
 have h1:0<=e 1:=hk.2.1.1
 show tCheck1.says _ ⟨fun ys=>ys=[bj (onV (e 0) (e 1) (e 2))],[]⟩ e
 refine ⟨trivial,?_⟩
 intro a51 k51
 have s51:e 51=((kBelow1 f1).sem [e 0,e 1,e 2]).getD 0 0:=a51
 clear a51 k51
 have v51:e 51=bj (e 0<bP/\e 1<bP):=s51
 clear s51
 refine ⟨fun h=>?_,fun h=>?_⟩
 ·have c51:=h
  refine ⟨trivial,?_⟩
  intro a147 k147
  have s147:e 147=((kFirst o f2).sem []).getD 0 0:=a147
  clear a147 k147
  intro a148 k148
  have s148:e 148=((kFirst o f2).sem []).getD 1 0:=a148
  clear a148 k148
  have v147:e 147=toE 1:=s147
  have v148:e 148=toE 4:=s148
  clear s147 s148
  refine ⟨trivial,?_⟩
  intro a243 k243
  have s243:e 243=((kIn1 f3).sem [e 0,e 1,e 2]).getD 0 0:=a243
  clear a243 k243
  intro a244 k244
  have s244:e 244=((kIn1 f3).sem [e 0,e 1,e 2]).getD 1 0:=a244
  clear a244 k244
  intro a245 k245
  have s245:e 245=((kIn1 f3).sem [e 0,e 1,e 2]).getD 2 0:=a245
  clear a245 k245
  have v243:e 243=toE (e 0):=s243
  have v244:e 244=toE (e 1):=s244
  have v245:e 245=e 2:=s245
  clear s243 s244 s245
  refine ⟨⟨v148,E_lt v243,E_lt v244⟩,?_⟩
  intro a291 k291
  have s291:e 291=((kOn o f4).sem [e 147,e 148,e 243,e 244,e 245]).getD 0 0:=a291
  clear a291 k291
  have v291:e 291=bj (onE (e 243) (e 244) (e 245)):=s291
  clear s291
  show [e 291]=_
  have hb:=bj_nz v51 c51
  rw [v291,v243,v244,v245,bj_iff (onE_to ⟨h0,hb.1⟩ ⟨h1,hb.2⟩)]
 ·have c51:=h
  show [(0:Int)]=_
  rw [bj_f fun h=>bj_z v51 c51 h.1]
def tInG1:Tree:=(.req 0 [.var 0,.var 1,.var 2]
(.lett 51 .bit (.app 0 0 [.var 0,.var 1,.var 2])
(.split 51
(.req 1 []
(.lett 147 .num (.app 1 0 [])
(.lett 148 .num (.app 1 1 [])
(.req 2 [.var 0,.var 1,.var 2]
(.lett 243 .num (.app 2 0 [.var 0,.var 1,.var 2])
(.lett 244 .num (.app 2 1 [.var 0,.var 1,.var 2])
(.lett 245 .bit (.app 2 2 [.var 0,.var 1,.var 2])
(.req 3 [.var 147,.var 148,.var 243,.var 244,.var 245]
(.lett 291 .bit (.app 3 0 [.var 147,.var 148,.var 243,.var 244,.var 245])
(.ret [.var 291]))))))))))
(.ret [.lit 0]))))
theorem law_inG1 (o:Fo) (f1 f2 f3 f4 f:FuncId) (e:Nat->Int) (hk:kkHas [.num,.num,.bit] [e 0,e 1,e 2]):tInG1.says [kBelow1 f1,kFirst o f2,kIn1 f3,kPIn o f4] ⟨fun ys=>ys=(kInG1 f).sem [e 0,e 1,e 2],[]⟩ e:=by
 have h0:0<=e 0:=hk.1.1
 have h1:0<=e 1:=hk.2.1.1
 show tInG1.says _ ⟨fun ys=>ys=[bj (inG (e 0) (e 1) (e 2))],[]⟩ e
 refine ⟨trivial,?_⟩
 intro a51 k51
 have s51:e 51=((kBelow1 f1).sem [e 0,e 1,e 2]).getD 0 0:=a51
 clear a51 k51
 have v51:e 51=bj (e 0<bP/\e 1<bP):=s51
 clear s51
 refine ⟨fun h=>?_,fun h=>?_⟩
 ·have c51:=h
  refine ⟨trivial,?_⟩
  intro a147 k147
  have s147:e 147=((kFirst o f2).sem []).getD 0 0:=a147
  clear a147 k147
  intro a148 k148
  have s148:e 148=((kFirst o f2).sem []).getD 1 0:=a148
  clear a148 k148
  have v147:e 147=toE 1:=s147
  have v148:e 148=toE 4:=s148
  clear s147 s148
  refine ⟨trivial,?_⟩
  intro a243 k243
  have s243:e 243=((kIn1 f3).sem [e 0,e 1,e 2]).getD 0 0:=a243
  clear a243 k243
  intro a244 k244
  have s244:e 244=((kIn1 f3).sem [e 0,e 1,e 2]).getD 1 0:=a244
  clear a244 k244
  intro a245 k245
  have s245:e 245=((kIn1 f3).sem [e 0,e 1,e 2]).getD 2 0:=a245
  clear a245 k245
  have v243:e 243=toE (e 0):=s243
  have v244:e 244=toE (e 1):=s244
  have v245:e 245=e 2:=s245
  clear s243 s244 s245
  refine ⟨⟨v147,v148,E_lt v243,E_lt v244⟩,?_⟩
  intro a291 k291
  have s291:e 291=((kPIn o f4).sem [e 147,e 148,e 243,e 244,e 245]).getD 0 0:=a291
  clear a291 k291
  have v291:e 291=bj (onE (e 243) (e 244) (e 245)/\(tmJ R1 (rsE (e 243) (e 244) (e 245)) 384 rGreat.toNat).z%bP=0):=s291
  clear s291
  show [e 291]=_
  have hb:=bj_nz v51 c51
  rw [v291,v243,v244,v245,rsE_to ⟨h0,hb.1⟩ ⟨h1,hb.2⟩]
  exact congrArg (fun x=>[x]) (bj_iff (and_congr_left fun _=>onE_to ⟨h0,hb.1⟩ ⟨h1,hb.2⟩))
 ·have c51:=h
  show [(0:Int)]=_
  rw [bj_f fun h=>bj_z v51 c51 h.1.1]
def tNeg1:Tree:=(.req 0 [.var 0,.var 1,.var 2]
(.lett 3 .bit (.app 0 0 [.var 0,.var 1,.var 2])
(.lett 4 .bit (.not (.var 3))
(.split 4
(.ret [.lit 0,.lit 0,.lit 0,.lit 5])
(.req 1 []
(.lett 5 .num (.app 1 0 [])
(.lett 6 .num (.app 1 1 [])
(.req 2 [.var 0,.var 1,.var 2]
(.lett 101 .num (.app 2 0 [.var 0,.var 1,.var 2])
(.lett 102 .num (.app 2 1 [.var 0,.var 1,.var 2])
(.lett 103 .bit (.app 2 2 [.var 0,.var 1,.var 2])
(.req 3 [.var 5,.var 6,.var 101,.var 102,.var 103]
(.lett 149 .num (.app 3 0 [.var 5,.var 6,.var 101,.var 102,.var 103])
(.lett 150 .num (.app 3 1 [.var 5,.var 6,.var 101,.var 102,.var 103])
(.lett 151 .bit (.app 3 2 [.var 5,.var 6,.var 101,.var 102,.var 103])
(.req 4 [.var 149,.var 150,.var 151]
(.lett 197 .num (.app 4 0 [.var 149,.var 150,.var 151])
(.lett 198 .num (.app 4 1 [.var 149,.var 150,.var 151])
(.lett 199 .bit (.app 4 2 [.var 149,.var 150,.var 151])
(.ret [.var 197,.var 198,.var 199,.lit 0]))))))))))))))))))))
theorem law_neg1 (o:Fo) (f1 f2 f3 f4 f5 f:FuncId) (e:Nat->Int) (hk:kkHas [.num,.num,.bit] [e 0,e 1,e 2]):tNeg1.says [kCheck1 f1,kFirst o f2,kIn1 f3,kPNeg o f4,kOut1 f5] ⟨fun ys=>ys=(kNeg1 f).sem [e 0,e 1,e 2],[]⟩ e:=by
 have h0:0<=e 0:=hk.1.1
 have h1:0<=e 1:=hk.2.1.1
 refine ⟨trivial,?_⟩
 intro a3 k3
 have s3:e 3=((kCheck1 f1).sem [e 0,e 1,e 2]).getD 0 0:=a3
 clear a3 k3
 have v3:e 3=bj (onV (e 0) (e 1) (e 2)):=s3
 clear s3
 intro a4 k4
 have b4:=c_not a4
 simp only [ev_var,ev_lit] at b4
 clear a4 k4
 refine ⟨fun h=>?_,fun h=>?_⟩
 ·have c4:=h
  show [0,0,0,5]=_
  show _=negV (e 0) (e 1) (e 2)
  rw [negV_f (bj_z v3 (b_yes b4 c4))]
 ·have c4:=h
  refine ⟨trivial,?_⟩
  intro a5 k5
  have s5:e 5=((kFirst o f2).sem []).getD 0 0:=a5
  clear a5 k5
  intro a6 k6
  have s6:e 6=((kFirst o f2).sem []).getD 1 0:=a6
  clear a6 k6
  clear s5 s6
  refine ⟨trivial,?_⟩
  intro a101 k101
  have s101:e 101=((kIn1 f3).sem [e 0,e 1,e 2]).getD 0 0:=a101
  clear a101 k101
  intro a102 k102
  have s102:e 102=((kIn1 f3).sem [e 0,e 1,e 2]).getD 1 0:=a102
  clear a102 k102
  intro a103 k103
  have s103:e 103=((kIn1 f3).sem [e 0,e 1,e 2]).getD 2 0:=a103
  clear a103 k103
  have v101:e 101=toE (e 0):=s101
  have v102:e 102=toE (e 1):=s102
  have v103:e 103=e 2:=s103
  clear s101 s102 s103
  refine ⟨(E_lt v102),?_⟩
  intro a149 k149
  have s149:e 149=((kPNeg o f4).sem [e 5,e 6,e 101,e 102,e 103]).getD 0 0:=a149
  clear a149 k149
  intro a150 k150
  have s150:e 150=((kPNeg o f4).sem [e 5,e 6,e 101,e 102,e 103]).getD 1 0:=a150
  clear a150 k150
  intro a151 k151
  have s151:e 151=((kPNeg o f4).sem [e 5,e 6,e 101,e 102,e 103]).getD 2 0:=a151
  clear a151 k151
  have v149:e 149=toE (e 0):=s149.trans v101
  have v150:e 150=toE (-ofE (e 102)):=s150
  have v151:e 151=e 2:=s151.trans v103
  clear s149 s150 s151
  refine ⟨⟨E_lt v149,E_lt v150⟩,?_⟩
  intro a197 k197
  have s197:e 197=((kOut1 f5).sem [e 149,e 150,e 151]).getD 0 0:=a197
  clear a197 k197
  intro a198 k198
  have s198:e 198=((kOut1 f5).sem [e 149,e 150,e 151]).getD 1 0:=a198
  clear a198 k198
  intro a199 k199
  have s199:e 199=((kOut1 f5).sem [e 149,e 150,e 151]).getD 2 0:=a199
  clear a199 k199
  have v197:e 197=ofE (e 149):=s197
  have v198:e 198=ofE (e 150):=s198
  have v199:e 199=e 2:=s199.trans v151
  clear s197 s198 s199
  show [e 197,e 198,e 199,0]=_
  show _=negV (e 0) (e 1) (e 2)
  have hon:onV (e 0) (e 1) (e 2):=by
   refine Classical.byContradiction fun hc=>?_
   exact b_no b4 c4 (v3.trans (bj_f hc))
  rw [negV_t hon,v197,v198,v199,v149,v150,v102,lt_md ⟨h0,hon.1.1⟩,ofE_toE,lt_md ⟨h1,hon.1.2⟩]
def lowP:Int:=9940570264628428797
def sqP:Int:=2708263910654730174793787626328176511836455197166317677006154293982164122222515399004018013397331347120527951271750
theorem goodP:mGood bP lowP sqP:=by unfold mGood mOk wideOf;decide +kernel
theorem bP_382:bP<2^382:=goodP.1.2.2
abbrev iE2:Sh:=.agg [.num,.num]
abbrev oE2:Oh:=.agg [.num,.num]
def nrm (a b:Int):Int:=(a*a+b*b)^(bP-2).toNat
theorem M_lt {a A:Int} (h:a=A%bP):a<bP:=by rw [h];exact (md_lt bP_pos).2
theorem mdE_neg {p a A:Int} (h:a%p=A%p):(-a)%p=(-A)%p:=by
 rw [<- Int.zero_sub a,<- Int.zero_sub A];exact mdE_sub rfl h
abbrev E2:Type:=Int×Int
def PQ (x y:Int) (Y:E2):Prop:=x=Y.1%bP/\y=Y.2%bP
theorem PQ.l1 {x y:Int} {Y:E2} (h:PQ x y Y):x<bP:=M_lt h.1
theorem PQ.l2 {x y:Int} {Y:E2} (h:PQ x y Y):y<bP:=M_lt h.2
section
variable {α:Type}
def hT (R:Rg α) (t u:J α):α:=R.sub (R.mul u.x (R.mul t.z t.z)) t.x
end
def J.l2 (P:J E2):List Int:=[P.x.1%bP,P.x.2%bP,P.y.1%bP,P.y.2%bP,P.z.1%bP,P.z.2%bP]
theorem c_num00 {e:Nat->Int} {v:Int} {i j:Nat} (h:v=(D.eqs [(.limb i 0,.lit 0),(.limb i 1,.lit 0),(.limb i 2,.lit 0),(.limb i 3,.lit 0),(.limb i 4,.lit 0),(.limb i 5,.lit 0),(.limb j 0,.lit 0),(.limb j 1,.lit 0),(.limb j 2,.lit 0),(.limb j 3,.lit 0),(.limb j 4,.lit 0),(.limb j 5,.lit 0)]).ev [] e) (hi:0<=e i/\e i<N384) (hj:0<=e j/\e j<N384):(v=1/\(e i=0/\e j=0))∨(v=0/\¬ (e i=0/\e j=0)):=by
 simp only [D.ev,List.all_cons,List.all_nil,ev_limb,ev_lit,Bool.and_true,b2i_bi,Bool.and_eq_true,beq_iff_eq] at h
 by_cases hc:e i=0/\e j=0
 ·left;rw [hc.1,hc.2] at h;simp [lim] at h;exact ⟨h,hc⟩
 ·right
  rw [if_neg (fun hh=>hc (by have:=lim_eq hi;have:=lim_eq hj;omega))] at h
  exact ⟨h,hc⟩
section
variable {α:Type} {R:Rg α} {t u:J α}
end
section
variable {α:Type}
end
def J.tl (P:J E2):List Int:=[P.x.1,P.x.2,P.y.1,P.y.2,P.z.1,P.z.2]
abbrev oPt:Oh:=.agg [.int .u64,.int .u64,.bool]
abbrev iPt:Sh:=.agg [.int .u64,.int .u64,.bool]
def pOk (p:Int):Prop:=3<=p/\p<4611686018427387904
def kLAdd (f:FuncId):K:={fn:=f,ext:=false,ins:=[iC,iU,iU],outs:=[oU],pre:=fun | [p,_,_,_,_,_,a,b]=>pOk p/\a<p/\b<p | _=>False,sem:=fun | [p,_,_,_,_,_,a,b]=>[(a+b)%p] | _=>[] }
def kLSub (f:FuncId):K:={fn:=f,ext:=false,ins:=[iC,iU,iU],outs:=[oU],pre:=fun | [p,_,_,_,_,_,a,b]=>pOk p/\a<p/\b<p | _=>False,sem:=fun | [p,_,_,_,_,_,a,b]=>[(a-b)%p] | _=>[] }
def kLMul (f:FuncId):K:={fn:=f,ext:=false,ins:=[iC,iU,iU],outs:=[oU],pre:=fun | [p,_,_,_,_,_,_,_]=>pOk p | _=>False,sem:=fun | [p,_,_,_,_,_,a,b]=>[a*b%p] | _=>[] }
def pwM (p a n:Int):Int:=((a.toNat^n.toNat%p.toNat:Nat):Int)
def kLPow (f:FuncId):K:={fn:=f,ext:=false,ins:=[iC,iU,iU],outs:=[oU],pre:=fun | [p,_,_,_,_,_,_,_]=>pOk p | _=>False,sem:=fun | [p,_,_,_,_,_,a,n]=>[pwM p a n] | _=>[] }
def invP (p a:Int):Int:=pwM p a (p-2)
def kLInv (f:FuncId):K:={fn:=f,ext:=false,ins:=[iC,iU],outs:=[oU],pre:=fun | [p,_,_,_,_,_,_]=>pOk p | _=>False,sem:=fun | [p,_,_,_,_,_,a]=>[invP p a] | _=>[] }
def rightP (p x:Int):Int:=(x*x%p*x%p+x)%p
def kLRight (f:FuncId):K:={fn:=f,ext:=false,ins:=[iC,iU],outs:=[oU],pre:=fun | [p,_,_,_,_,_,x]=>pOk p/\x<p | _=>False,sem:=fun | [p,_,_,_,_,_,x]=>[rightP p x] | _=>[] }
def onP (p x y z:Int):Prop:=if z=0 then x<p/\y<p/\y*y%p=rightP p x else x=0/\y=0
instance (p x y z:Int):Decidable (onP p x y z):=by unfold onP;exact inferInstance
def kLOn (f:FuncId):K:={fn:=f,ext:=false,ins:=[iC,iPt],outs:=[oB],pre:=fun | [p,_,_,_,_,_,_,_,_]=>pOk p | _=>False,sem:=fun | [p,_,_,_,_,_,x,y,z]=>[bi (onP p x y z)] | _=>[] }
def slopeP (p x y x' y':Int):Int×Int :=
 if x≠x' then ((y'-y)%p*invP p ((x'-x)%p)%p,1)
 else if y≠y'∨y=0 then (0,0)
 else ((((x*x%p+x*x%p)%p+x*x%p)%p+1)%p*invP p ((y+y)%p)%p,1)
def kLSlope (f:FuncId):K:={fn:=f,ext:=false,ins:=[iC,iPt,iPt],outs:=[oU,oB],pre:=fun | [p,_,_,_,_,_,x,y,_,x',y',_]=>pOk p/\x<p/\y<p/\x'<p/\y'<p | _=>False,sem:=fun | [p,_,_,_,_,_,x,y,_,x',y',_]=>[(slopeP p x y x' y').1,(slopeP p x y x' y').2] | _=>[] }
structure Pt where
 x:Int
 y:Int
 z:Int
 deriving DecidableEq
def sumP (p:Int) (a b:Pt):Pt :=
 if a.z≠0 then b else if b.z≠0 then a else
 let s:=slopeP p a.x a.y b.x b.y
 if s.2=0 then ⟨0,0,1⟩ else
 let x:=((s.1*s.1%p-a.x)%p-b.x)%p
 ⟨x,(s.1*((a.x-x)%p)%p-a.y)%p,0⟩
def Pt.l (a:Pt):List Int:=[a.x,a.y,a.z]
def Pt.lt (a:Pt) (p:Int):Prop:=(0<=a.x/\a.x<p)/\(0<=a.y/\a.y<p)
def kLSum (f:FuncId):K:={fn:=f,ext:=false,ins:=[iC,iPt,iPt],outs:=[oPt],pre:=fun | [p,_,_,_,_,_,x,y,_,x',y',_]=>pOk p/\x<p/\y<p/\x'<p/\y'<p | _=>False,sem:=fun | [p,_,_,_,_,_,x,y,z,x',y',z']=>(sumP p ⟨x,y,z⟩ ⟨x',y',z'⟩).l | _=>[] }
def mulP (p:Int) (a:Pt):Nat->Nat->Pt
 | 0,_=>⟨0,0,1⟩
 | k+1,n=>if n=0 then ⟨0,0,1⟩ else
  let h:=mulP p a k (n/2)
  let d:=sumP p h h
  if n%2=1 then sumP p d a else d
def kLTimes (f:FuncId):K:={fn:=f,ext:=false,ins:=[iC,iPt,iU],outs:=[oPt],pre:=fun | [p,_,_,_,_,_,x,y,_,_]=>pOk p/\x<p/\y<p | _=>False,sem:=fun | [p,_,_,_,_,_,x,y,z,n]=>(mulP p ⟨x,y,z⟩ 64 n.toNat).l | _=>[] }
def inP (p r x y z:Int):Prop:=onP p x y z/\(mulP p ⟨x,y,z⟩ 64 r.toNat).z≠0
instance (p r x y z:Int):Decidable (inP p r x y z):=by unfold inP;exact inferInstance
def kLIn (f:FuncId):K:={fn:=f,ext:=false,ins:=[iC,iPt],outs:=[oB],pre:=fun | [p,_,_,_,_,_,_,_,_]=>pOk p | _=>False,sem:=fun | [p,r,_,_,_,_,x,y,z]=>[bi (inP p r x y z)] | _=>[] }
theorem pwM_eq {p a n:Int} (hp:0<p) (ha:0<=a):pwM p a n=a^n.toNat%p:=by
 unfold pwM
 rw [Int.natCast_emod,Int.natCast_pow,Int.toNat_of_nonneg ha,Int.toNat_of_nonneg (by omega)]
def tLAdd:Tree:=(.lett 8 (.int .u64) (.bin .add .u64 (.var 6) (.var 7))
(.lett 9 (.int .u64) (.bin .rem .u64 (.var 8) (.var 0))
(.nz (.var 0)
(.ret [.var 9]))))
theorem law_lAdd (f:FuncId) (e:Nat->Int) (hk:kkHas [.int .u64,.int .u64,.int .u64,.int .u64,.int .u64,.bit,.int .u64,.int .u64] [e 0,e 1,e 2,e 3,e 4,e 5,e 6,e 7]) (hp:(kLAdd f).pre [e 0,e 1,e 2,e 3,e 4,e 5,e 6,e 7]):tLAdd.says [] ⟨fun ys=>ys=(kLAdd f).sem [e 0,e 1,e 2,e 3,e 4,e 5,e 6,e 7],[]⟩ e:=by
 obtain ⟨⟨p0,p1⟩,p2,p3⟩:=hp
 obtain ⟨_,_,_,_,_,_,h6,h7,_⟩:=hk
 have u6:=has_u64 h6
 have u7:=has_u64 h7
 simp only [tLAdd,kLAdd,Tree.says,List.getElem?_cons_zero,List.getElem?_cons_succ,List.map,ev_lit,ev_var,ev_limb,D.ev,List.getD_cons_zero,List.getD_cons_succ]
 intro a8 _ a9 _
 have c8:e 8=e 6+e 7:=by rw [a8];simp only [binE,wr];omega
 refine ⟨by omega,?_⟩
 rw [a9,c8];simp only [binE];rw [Int.tmod_eq_emod_of_nonneg (by omega)]
def tLSub:Tree:=(.lett 8 (.int .u64) (.bin .add .u64 (.var 6) (.var 0))
(.lett 9 (.int .u64) (.bin .sub .u64 (.var 8) (.var 7))
(.lett 10 (.int .u64) (.bin .rem .u64 (.var 9) (.var 0))
(.nz (.var 0)
(.ret [.var 10])))))
theorem law_lSub (f:FuncId) (e:Nat->Int) (hk:kkHas [.int .u64,.int .u64,.int .u64,.int .u64,.int .u64,.bit,.int .u64,.int .u64] [e 0,e 1,e 2,e 3,e 4,e 5,e 6,e 7]) (hp:(kLSub f).pre [e 0,e 1,e 2,e 3,e 4,e 5,e 6,e 7]):tLSub.says [] ⟨fun ys=>ys=(kLSub f).sem [e 0,e 1,e 2,e 3,e 4,e 5,e 6,e 7],[]⟩ e:=by
 obtain ⟨⟨p0,p1⟩,p2,p3⟩:=hp
 obtain ⟨_,_,_,_,_,_,h6,h7,_⟩:=hk
 have u6:=has_u64 h6
 have u7:=has_u64 h7
 simp only [tLSub,kLSub,Tree.says,List.getElem?_cons_zero,List.getElem?_cons_succ,List.map,ev_lit,ev_var,ev_limb,D.ev,List.getD_cons_zero,List.getD_cons_succ]
 intro a8 _ a9 _ a10 _
 have c8:e 8=e 6+e 0:=by rw [a8];simp only [binE,wr];omega
 have c9:e 9=e 6+e 0-e 7:=by rw [a9,c8];simp only [binE,wr];omega
 refine ⟨by omega,?_⟩
 rw [a10,c9];simp only [binE];rw [Int.tmod_eq_emod_of_nonneg (by omega)]
 congr 1
 exact md 1 (by omega)
def tLMul:Tree:=(.req 0 [.var 6,.var 7]
(.lett 8 (.int .u64) (.app 0 0 [.var 6,.var 7])
(.lett 9 (.int .u64) (.app 0 1 [.var 6,.var 7])
(.req 1 [.var 8,.var 9,.var 0]
(.lett 10 (.int .u64) (.app 1 0 [.var 8,.var 9,.var 0])
(.ret [.var 10]))))))
theorem law_lMul (f1 f2 f:FuncId) (e:Nat->Int) (hp:(kLMul f).pre [e 0,e 1,e 2,e 3,e 4,e 5,e 6,e 7]):tLMul.says [kMul64 f1,kRem64 f2] ⟨fun ys=>ys=(kLMul f).sem [e 0,e 1,e 2,e 3,e 4,e 5,e 6,e 7],[]⟩ e:=by
 have p0:0<e 0:=by have:=hp.1;omega
 simp only [tLMul,kMul64,kRem64,kLMul,Tree.says,List.getElem?_cons_zero,List.getElem?_cons_succ,List.map,ev_lit,ev_var,ev_limb,D.ev,List.getD_cons_zero,List.getD_cons_succ]
 refine ⟨trivial,fun a1 _ a2 _=>⟨p0,fun a3 _=>?_⟩⟩
 rw [a3,a1,a2]
 congr 2
 generalize e 6*e 7=x
 omega
theorem shr_n {v x:Int} {n:Nat} (h:v=binE .shr .u64 x n) (hn:n<=63):v=x/2^n:=by
 rw [h]
 simp only [binE,Int.toNat_natCast]
 rw [show min n IntKind.u64.bits=n by simp [IntKind.bits];omega]
 rw [Int.fdiv_eq_ediv_of_nonneg _ (by exact_mod_cast Nat.zero_le _)]
 simp
def tLPow:Tree:=(.req 0 [.var 7]
(.lett 8 (.int .i64) (.app 0 0 [.var 7])
(.lett 9 (.int .i64) (.bin .sub .i64 (.var 8) (.lit 1))
(.loop [.var 9,.lit 1] [(.int .i64),(.int .u64)] 10
(.lett 12 .bit (.cmp .geq (.var 10) (.lit 0))
(.split 12
(.req 1 [.var 0,.var 1,.var 2,.var 3,.var 4,.var 5,.var 11,.var 11]
(.lett 13 (.int .u64) (.app 1 0 [.var 0,.var 1,.var 2,.var 3,.var 4,.var 5,.var 11,.var 11])
(.lett 14 .bit (.cmp .leq (.lit 0) (.var 10))
(.lett 15 (.int .u64) (.bin .shr .u64 (.var 7) (.var 10))
(.nz (.var 14)
(.lett 16 (.int .u64) (.bin .and .u64 (.var 15) (.lit 1))
(.lett 17 .bit (.cmp .eql (.var 16) (.lit 1))
(.split 17
 (.req 1 [.var 0,.var 1,.var 2,.var 3,.var 4,.var 5,.var 13,.var 6]
 (.lett 18 (.int .u64) (.app 1 0 [.var 0,.var 1,.var 2,.var 3,.var 4,.var 5,.var 13,.var 6])
 (.lett 19 (.int .i64) (.bin .sub .i64 (.var 10) (.lit 1))
 (.back 0 [.var 19,.var 18]))))
 (.lett 18 (.int .i64) (.bin .sub .i64 (.var 10) (.lit 1))
 (.back 0 [.var 18,.var 13]))))))))))
(.ret [.var 11])))))))
theorem law_lPow (f1 f2 f:FuncId) (e:Nat->Int) (hk:kkHas [.int .u64,.int .u64,.int .u64,.int .u64,.int .u64,.bit,.int .u64,.int .u64] [e 0,e 1,e 2,e 3,e 4,e 5,e 6,e 7]) (hp:(kLPow f).pre [e 0,e 1,e 2,e 3,e 4,e 5,e 6,e 7]):tLPow.says [kLen64 f1,kLMul f2] ⟨fun ys=>ys=(kLPow f).sem [e 0,e 1,e 2,e 3,e 4,e 5,e 6,e 7],[]⟩ e:=by
 have hp:pOk (e 0):=hp
 have p0:0<e 0:=by have:=hp.1;omega
 obtain ⟨_,_,_,_,_,_,h6,h7,_⟩:=hk
 have u6:=has_u64 h6
 have u7:=has_u64 h7
 simp only [tLPow,kLen64,kLMul,kLPow,Tree.says,List.getElem?_cons_zero,List.getElem?_cons_succ,List.map,ev_lit,ev_var,ev_limb,D.ev,List.getD_cons_zero,List.getD_cons_succ]
 refine ⟨trivial,fun a8 _ a9 _=>?_⟩
 have b0:=blen_nn (e 7)
 have b1:=blen_le 64 (e 7) u7.1 (by rw [p64'];exact u7.2)
 have c9:e 9=blen (e 7)-1:=by rw [a9,a8];simp only [binE,wr];omega
 rw [pwM_eq p0 u6.1]
 refine ⟨fun l=>PowI (e 0) (e 6) (e 7) l/\l.headD 0<=63,fun | [i,_]=>(i+1).toNat | _=>0,?_,fun e' he hkk hI=>?_⟩
 ·rw [c9]
  refine ⟨⟨by omega,by omega,?_⟩,by show blen (e 7)-1<=63;omega⟩
  rw [Int.sub_add_cancel]
  have h1:e 7/2^(blen (e 7)).toNat=0:=by
   by_cases hc:e 7<2^(blen (e 7)).toNat
   ·exact Int.ediv_eq_zero_of_lt u7.1 hc
   ·have:=blen_gt (blen (e 7)).toNat (e 7) (by omega);omega
  rw [h1,Int.toNat_zero,Int.pow_zero]
  exact (Int.emod_eq_of_lt (by decide) (by have:=hp.1;omega)).symm
 ·obtain ⟨⟨i1,i2,i3⟩,i4⟩:PowI (e 0) (e 6) (e 7) [e' 10,e' 11]/\e' 10<=63:=hI
  simp only [he 0 (by decide),he 1 (by decide),he 2 (by decide),he 3 (by decide),he 4 (by decide),he 5 (by decide),he 6 (by decide),he 7 (by decide)]
  intro a12 _
  have b12:=c_ge a12
  refine ⟨fun hs=>?_,fun hs=>?_⟩
  ·obtain ⟨n,hi⟩:=Int.eq_ofNat_of_zero_le (show 0<=e' 10 by omega)
   rw [hi,show ((n:Int)+1).toNat=n+1 by omega] at i3
   refine ⟨hp,fun a13 _ a14 _ a15 _=>⟨bit_nz a14 (by omega),fun a16 _ a17 _=>?_⟩⟩
   have b17:=c_eq a17
   rw [hi] at a15
   have c15:=shr_n a15 (by omega)
   have hq:(0:Int)<2^n:=Int.pow_pos (by decide)
   have u15:U (e' 15):=by
    rw [c15]
    exact ⟨Int.ediv_nonneg u7.1 (by omega),Int.lt_of_le_of_lt (Int.ediv_le_self _ u7.1) u7.2⟩
   have c16:=and_1 a16 u15
   rw [c15] at c16
   refine ⟨fun hs2=>?_,fun hs2=>?_⟩
   ·refine ⟨hp,fun a18 _ a19 _=>?_⟩
    have h19:e' 19=n-1:=by rw [a19];simp only [binE,wr];omega
    show (PowI (e 0) (e 6) (e 7) [e' 19,e' 18]/\e' 19<=63)/\(e' 19+1).toNat<(e' 10+1).toNat
    rw [h19,hi]
    refine ⟨⟨⟨by omega,by omega,?_⟩,by omega⟩,by omega⟩
    rw [show ((n:Int)-1+1).toNat=n by omega]
    exact pow_step1 u7.1 i3 a13 a18 (by omega)
   ·intro a18 _
    have h18:e' 18=n-1:=by rw [a18];simp only [binE,wr];omega
    show (PowI (e 0) (e 6) (e 7) [e' 18,e' 13]/\e' 18<=63)/\(e' 18+1).toNat<(e' 10+1).toNat
    rw [h18,hi]
    refine ⟨⟨⟨by omega,by omega,?_⟩,by omega⟩,by omega⟩
    rw [show ((n:Int)-1+1).toNat=n by omega]
    exact pow_step0 u7.1 i3 a13 (by omega)
  ·have h1:e' 10=-1:=by omega
   rw [i3,h1]
   show [e 6^(e 7/1).toNat%e 0]=_
   rw [Int.ediv_one]
def tLInv:Tree:=(.lett 7 (.int .u64) (.bin .sub .u64 (.var 0) (.lit 2))
(.req 0 [.var 0,.var 1,.var 2,.var 3,.var 4,.var 5,.var 6,.var 7]
(.lett 8 (.int .u64) (.app 0 0 [.var 0,.var 1,.var 2,.var 3,.var 4,.var 5,.var 6,.var 7])
(.ret [.var 8]))))
theorem law_lInv (f1 f:FuncId) (e:Nat->Int) (hk:kkHas [.int .u64,.int .u64,.int .u64,.int .u64,.int .u64,.bit,.int .u64] [e 0,e 1,e 2,e 3,e 4,e 5,e 6]) (hp:(kLInv f).pre [e 0,e 1,e 2,e 3,e 4,e 5,e 6]):tLInv.says [kLPow f1] ⟨fun ys=>ys=(kLInv f).sem [e 0,e 1,e 2,e 3,e 4,e 5,e 6],[]⟩ e:=by
 have hp:pOk (e 0):=hp
 have p0:=hp.1
 have p1:=hp.2
 simp only [tLInv,kLPow,kLInv,Tree.says,List.getElem?_cons_zero,List.getElem?_cons_succ,List.map,ev_lit,ev_var,ev_limb,D.ev,List.getD_cons_zero,List.getD_cons_succ]
 intro a7 _
 have c7:e 7=e 0-2:=by rw [a7];simp only [binE,wr];omega
 refine ⟨hp,fun a8 _=>?_⟩
 rw [a8,c7];rfl
def tLRight:Tree:=(.req 0 [.var 0,.var 1,.var 2,.var 3,.var 4,.var 5,.var 6,.var 6]
(.lett 247 (.int .u64) (.app 0 0 [.var 0,.var 1,.var 2,.var 3,.var 4,.var 5,.var 6,.var 6])
(.req 0 [.var 0,.var 1,.var 2,.var 3,.var 4,.var 5,.var 247,.var 6]
(.lett 343 (.int .u64) (.app 0 0 [.var 0,.var 1,.var 2,.var 3,.var 4,.var 5,.var 247,.var 6])
(.req 1 [.var 0,.var 1,.var 2,.var 3,.var 4,.var 5,.var 343,.var 6]
(.lett 439 (.int .u64) (.app 1 0 [.var 0,.var 1,.var 2,.var 3,.var 4,.var 5,.var 343,.var 6])
(.ret [.var 439])))))))
theorem law_lRight (f1 f2 f:FuncId) (e:Nat->Int) (hp:(kLRight f).pre [e 0,e 1,e 2,e 3,e 4,e 5,e 6]):tLRight.says [kLMul f1,kLAdd f2] ⟨fun ys=>ys=(kLRight f).sem [e 0,e 1,e 2,e 3,e 4,e 5,e 6],[]⟩ e:=by
 obtain ⟨hp,hx⟩:pOk (e 0)/\e 6<e 0:=hp
 have p0:=hp.1
 simp only [tLRight,kLMul,kLAdd,kLRight,Tree.says,List.getElem?_cons_zero,List.getElem?_cons_succ,List.map,ev_lit,ev_var,ev_limb,D.ev,List.getD_cons_zero,List.getD_cons_succ]
 refine ⟨hp,fun a1 _=>⟨hp,fun a2 _=>⟨⟨hp,by rw [a2];exact (md_lt (by omega)).2,hx⟩,fun a3 _=>?_⟩⟩⟩
 rw [a3,a2,a1];rfl
def tLOn:Tree:=(.split 8
(.lett 9 .bit (.cmp .eql (.var 6) (.lit 0))
(.split 9
 (.lett 10 .bit (.cmp .eql (.var 7) (.lit 0))
 (.ret [.var 10]))
 (.ret [.lit 0])))
(.lett 201 .bit (.cmp .lss (.var 6) (.var 0))
(.split 201
 (.lett 489 .bit (.cmp .lss (.var 7) (.var 0))
 (.split 489
 (.req 0 [.var 0,.var 1,.var 2,.var 3,.var 4,.var 5,.var 7,.var 7]
 (.lett 873 (.int .u64) (.app 0 0 [.var 0,.var 1,.var 2,.var 3,.var 4,.var 5,.var 7,.var 7])
 (.req 1 [.var 0,.var 1,.var 2,.var 3,.var 4,.var 5,.var 6]
 (.lett 1065 (.int .u64) (.app 1 0 [.var 0,.var 1,.var 2,.var 3,.var 4,.var 5,.var 6])
 (.lett 1113 .bit (.cmp .eql (.var 873) (.var 1065))
 (.ret [.var 1113]))))))
 (.ret [.lit 0])))
 (.ret [.lit 0]))))
theorem law_lOn (f1 f2 f:FuncId) (e:Nat->Int) (hp:(kLOn f).pre [e 0,e 1,e 2,e 3,e 4,e 5,e 6,e 7,e 8]):tLOn.says [kLMul f1,kLRight f2] ⟨fun ys=>ys=(kLOn f).sem [e 0,e 1,e 2,e 3,e 4,e 5,e 6,e 7,e 8],[]⟩ e:=by
 have hp:pOk (e 0):=hp
 simp only [tLOn,kLMul,kLRight,kLOn,Tree.says,List.getElem?_cons_zero,List.getElem?_cons_succ,List.map,ev_lit,ev_var,ev_limb,D.ev,List.getD_cons_zero,List.getD_cons_succ]
 unfold bi
 refine ⟨fun hz=>?_,fun hz=>?_⟩
 ·intro a9 _
  have b9:=c_eq a9
  refine ⟨fun h1=>?_,fun h1=>?_⟩
  ·intro a10 _
   have b10:=c_eq a10
   have:onP (e 0) (e 6) (e 7) (e 8)↔e 7=0:=by unfold onP;rw [if_neg hz];constructor <;> intro h <;> omega
   simp only [this]
   congr 1
   split <;> omega
  ·have:¬ onP (e 0) (e 6) (e 7) (e 8):=by unfold onP;rw [if_neg hz];omega
   rw [if_neg this]
 ·intro a1 _
  have b1:=c_lt a1
  have hon:onP (e 0) (e 6) (e 7) (e 8)↔e 6<e 0/\e 7<e 0/\e 7*e 7%e 0=rightP (e 0) (e 6):=by unfold onP;rw [if_pos hz]
  refine ⟨fun h1=>?_,fun h1=>?_⟩
  ·intro a2 _
   have b2:=c_lt a2
   refine ⟨fun h2=>?_,fun h2=>?_⟩
   ·refine ⟨hp,fun a3 _=>⟨⟨hp,by omega⟩,fun a4 _ a5 _=>?_⟩⟩
    have b5:=c_eq a5
    rw [a3,a4] at b5
    simp only [hon]
    congr 1
    split
    ·rename_i h;rcases b5 with b5 | b5
     ·exact b5.1
     ·exact absurd h.2.2 b5.2
    ·rename_i h;rcases b5 with b5 | b5
     ·exact absurd ⟨by omega,by omega,b5.2⟩ h
     ·exact b5.1
   ·rw [if_neg (by rw [hon];omega)]
  ·rw [if_neg (by rw [hon];omega)]
def tLSlope:Tree:=(.lett 12 .bit (.cmp .neq (.var 6) (.var 9))
(.split 12
(.req 0 [.var 0,.var 1,.var 2,.var 3,.var 4,.var 5,.var 10,.var 7]
(.lett 301 (.int .u64) (.app 0 0 [.var 0,.var 1,.var 2,.var 3,.var 4,.var 5,.var 10,.var 7])
(.req 0 [.var 0,.var 1,.var 2,.var 3,.var 4,.var 5,.var 9,.var 6]
(.lett 637 (.int .u64) (.app 0 0 [.var 0,.var 1,.var 2,.var 3,.var 4,.var 5,.var 9,.var 6])
(.req 1 [.var 0,.var 1,.var 2,.var 3,.var 4,.var 5,.var 637]
(.lett 685 (.int .u64) (.app 1 0 [.var 0,.var 1,.var 2,.var 3,.var 4,.var 5,.var 637])
(.req 2 [.var 0,.var 1,.var 2,.var 3,.var 4,.var 5,.var 301,.var 685]
(.lett 733 (.int .u64) (.app 2 0 [.var 0,.var 1,.var 2,.var 3,.var 4,.var 5,.var 301,.var 685])
(.ret [.var 733,.lit 1])))))))))
(.lett 13 .bit (.cmp .neq (.var 7) (.var 10))
(.split 13
 (.ret [.lit 0,.lit 0])
 (.lett 14 .bit (.cmp .eql (.var 7) (.lit 0))
 (.split 14
 (.ret [.lit 0,.lit 0])
 (.req 2 [.var 0,.var 1,.var 2,.var 3,.var 4,.var 5,.var 6,.var 6]
 (.lett 15 (.int .u64) (.app 2 0 [.var 0,.var 1,.var 2,.var 3,.var 4,.var 5,.var 6,.var 6])
 (.req 3 [.var 0,.var 1,.var 2,.var 3,.var 4,.var 5,.var 15,.var 15]
 (.lett 304 (.int .u64) (.app 3 0 [.var 0,.var 1,.var 2,.var 3,.var 4,.var 5,.var 15,.var 15])
 (.req 3 [.var 0,.var 1,.var 2,.var 3,.var 4,.var 5,.var 304,.var 15]
 (.lett 400 (.int .u64) (.app 3 0 [.var 0,.var 1,.var 2,.var 3,.var 4,.var 5,.var 304,.var 15])
 (.req 3 [.var 0,.var 1,.var 2,.var 3,.var 4,.var 5,.var 400,.lit 1]
 (.lett 448 (.int .u64) (.app 3 0 [.var 0,.var 1,.var 2,.var 3,.var 4,.var 5,.var 400,.lit 1])
 (.req 3 [.var 0,.var 1,.var 2,.var 3,.var 4,.var 5,.var 7,.var 7]
 (.lett 784 (.int .u64) (.app 3 0 [.var 0,.var 1,.var 2,.var 3,.var 4,.var 5,.var 7,.var 7])
 (.req 1 [.var 0,.var 1,.var 2,.var 3,.var 4,.var 5,.var 784]
 (.lett 832 (.int .u64) (.app 1 0 [.var 0,.var 1,.var 2,.var 3,.var 4,.var 5,.var 784])
 (.req 2 [.var 0,.var 1,.var 2,.var 3,.var 4,.var 5,.var 448,.var 832]
 (.lett 880 (.int .u64) (.app 2 0 [.var 0,.var 1,.var 2,.var 3,.var 4,.var 5,.var 448,.var 832])
 (.ret [.var 880,.lit 1])))))))))))))))))))))
theorem law_lSlope (f1 f2 f3 f4 f:FuncId) (e:Nat->Int) (hk:kkHas [.int .u64,.int .u64,.int .u64,.int .u64,.int .u64,.bit,.int .u64,.int .u64,.bit,.int .u64,.int .u64,.bit] [e 0,e 1,e 2,e 3,e 4,e 5,e 6,e 7,e 8,e 9,e 10,e 11]) (hp:(kLSlope f).pre [e 0,e 1,e 2,e 3,e 4,e 5,e 6,e 7,e 8,e 9,e 10,e 11]):tLSlope.says [kLSub f1,kLInv f2,kLMul f3,kLAdd f4] ⟨fun ys=>ys=(kLSlope f).sem [e 0,e 1,e 2,e 3,e 4,e 5,e 6,e 7,e 8,e 9,e 10,e 11],[]⟩ e:=by
 obtain ⟨hp,q1,q2,q3,q4⟩:=hp
 have p0:0<e 0:=by have:=hp.1;omega
 have p3:=hp.1
 have lt:∀ x:Int,x%e 0<e 0:=fun x=>(md_lt p0).2
 simp only [tLSlope,kLSub,kLInv,kLMul,kLAdd,kLSlope,Tree.says,List.getElem?_cons_zero,List.getElem?_cons_succ,List.map,ev_lit,ev_var,ev_limb,D.ev,List.getD_cons_zero,List.getD_cons_succ]
 intro a12 _
 have b12:=c_ne a12
 refine ⟨fun h=>?_,fun h=>?_⟩
 ·refine ⟨⟨hp,q4,q2⟩,fun a1 _=>⟨⟨hp,q3,q1⟩,fun a2 _=>⟨hp,fun a3 _=>⟨hp,fun a4 _=>?_⟩⟩⟩⟩
  unfold slopeP
  rw [if_pos (by omega),a4,a1,a3,a2]
 ·intro a13 _
  have b13:=c_ne a13
  refine ⟨fun h1=>?_,fun h1=>?_⟩
  ·unfold slopeP
   rw [if_neg (by omega),if_pos (by omega)]
  ·intro a14 _
   have b14:=c_eq a14
   refine ⟨fun h2=>?_,fun h2=>?_⟩
   ·unfold slopeP
    rw [if_neg (by omega),if_pos (by omega)]
   ·refine ⟨hp,fun a1 _=>⟨⟨hp,by rw [a1];exact lt _,by rw [a1];exact lt _⟩,fun a2 _=>⟨⟨hp,by rw [a2];exact lt _,by rw [a1];exact lt _⟩,fun a3 _=>⟨⟨hp,by rw [a3];exact lt _,by omega⟩,fun a4 _=>⟨⟨hp,q2,q2⟩,fun a5 _=>⟨hp,fun a6 _=>⟨hp,fun a7 _=>?_⟩⟩⟩⟩⟩⟩⟩
    unfold slopeP
    rw [if_neg (by omega),if_neg (by omega),a7,a4,a6,a3,a5,a2,a1]
def tLSum:Tree:=(.split 8
(.ret [.var 9,.var 10,.var 11])
(.split 11
 (.ret [.var 6,.var 7,.var 8])
 (.req 0 [.var 0,.var 1,.var 2,.var 3,.var 4,.var 5,.var 6,.var 7,.var 8,.var 9,.var 10,.var 11]
 (.lett 12 (.int .u64) (.app 0 0 [.var 0,.var 1,.var 2,.var 3,.var 4,.var 5,.var 6,.var 7,.var 8,.var 9,.var 10,.var 11])
 (.lett 13 .bit (.app 0 1 [.var 0,.var 1,.var 2,.var 3,.var 4,.var 5,.var 6,.var 7,.var 8,.var 9,.var 10,.var 11])
 (.lett 14 .bit (.not (.var 13))
 (.split 14
 (.ret [.lit 0,.lit 0,.lit 1])
 (.req 1 [.var 0,.var 1,.var 2,.var 3,.var 4,.var 5,.var 12,.var 12]
 (.lett 255 (.int .u64) (.app 1 0 [.var 0,.var 1,.var 2,.var 3,.var 4,.var 5,.var 12,.var 12])
 (.req 2 [.var 0,.var 1,.var 2,.var 3,.var 4,.var 5,.var 255,.var 6]
 (.lett 399 (.int .u64) (.app 2 0 [.var 0,.var 1,.var 2,.var 3,.var 4,.var 5,.var 255,.var 6])
 (.req 2 [.var 0,.var 1,.var 2,.var 3,.var 4,.var 5,.var 399,.var 9]
 (.lett 543 (.int .u64) (.app 2 0 [.var 0,.var 1,.var 2,.var 3,.var 4,.var 5,.var 399,.var 9])
 (.req 2 [.var 0,.var 1,.var 2,.var 3,.var 4,.var 5,.var 6,.var 543]
 (.lett 1023 (.int .u64) (.app 2 0 [.var 0,.var 1,.var 2,.var 3,.var 4,.var 5,.var 6,.var 543])
 (.req 1 [.var 0,.var 1,.var 2,.var 3,.var 4,.var 5,.var 12,.var 1023]
 (.lett 1071 (.int .u64) (.app 1 0 [.var 0,.var 1,.var 2,.var 3,.var 4,.var 5,.var 12,.var 1023])
 (.req 2 [.var 0,.var 1,.var 2,.var 3,.var 4,.var 5,.var 1071,.var 7]
 (.lett 1215 (.int .u64) (.app 2 0 [.var 0,.var 1,.var 2,.var 3,.var 4,.var 5,.var 1071,.var 7])
 (.ret [.var 543,.var 1215,.lit 0]))))))))))))))))))))
theorem law_lSum (f1 f2 f3 f:FuncId) (e:Nat->Int) (hk:kkHas [.int .u64,.int .u64,.int .u64,.int .u64,.int .u64,.bit,.int .u64,.int .u64,.bit,.int .u64,.int .u64,.bit] [e 0,e 1,e 2,e 3,e 4,e 5,e 6,e 7,e 8,e 9,e 10,e 11]) (hp:(kLSum f).pre [e 0,e 1,e 2,e 3,e 4,e 5,e 6,e 7,e 8,e 9,e 10,e 11]):tLSum.says [kLSlope f1,kLMul f2,kLSub f3] ⟨fun ys=>ys=(kLSum f).sem [e 0,e 1,e 2,e 3,e 4,e 5,e 6,e 7,e 8,e 9,e 10,e 11],[]⟩ e:=by
 obtain ⟨hp,q1,q2,q3,q4⟩:=hp
 have p0:0<e 0:=by have:=hp.1;omega
 have lt:∀ x:Int,x%e 0<e 0:=fun x=>(md_lt p0).2
 simp only [tLSum,kLSlope,kLMul,kLSub,kLSum,Tree.says,List.getElem?_cons_zero,List.getElem?_cons_succ,List.map,ev_lit,ev_var,ev_limb,D.ev,List.getD_cons_zero,List.getD_cons_succ]
 refine ⟨fun h=>?_,fun h=>?_⟩
 ·unfold sumP Pt.l;rw [if_pos h]
 refine ⟨fun h1=>?_,fun h1=>?_⟩
 ·unfold sumP Pt.l;rw [if_neg (by simpa using h),if_pos h1]
 refine ⟨⟨hp,q1,q2,q3,q4⟩,fun a12 _ a13 _ a14 _=>?_⟩
 have b14:=c_not a14
 refine ⟨fun h2=>?_,fun h2=>?_⟩
 ·have hz:(slopeP (e 0) (e 6) (e 7) (e 9) (e 10)).2=0:=by rw [<- a13];omega
  unfold sumP Pt.l
  rw [if_neg (by simpa using h),if_neg (by simpa using h1)]
  simp only [hz,if_true]
 ·have hz:¬ (slopeP (e 0) (e 6) (e 7) (e 9) (e 10)).2=0:=by rw [<- a13];omega
  refine ⟨hp,fun a1 _=>⟨⟨hp,by rw [a1];exact lt _,q1⟩,fun a2 _=>⟨⟨hp,by rw [a2];exact lt _,q3⟩,fun a3 _=>⟨⟨hp,q1,by rw [a3];exact lt _⟩,fun a4 _=>⟨hp,fun a5 _=>⟨⟨hp,by rw [a5];exact lt _,q2⟩,fun a6 _=>?_⟩⟩⟩⟩⟩⟩
  unfold sumP Pt.l
  rw [if_neg (by simpa using h),if_neg (by simpa using h1)]
  simp only [hz,if_false]
  rw [a6,a5,a4,a3,a2,a1,a12]
theorem sumP_lt {p:Int} (hp:0<p) {a b:Pt} (ha:a.lt p) (hb:b.lt p):(sumP p a b).lt p:=by
 unfold sumP
 split
 ·exact hb
 split
 ·exact ha
 simp only
 split
 ·exact ⟨⟨Int.le_refl _,hp⟩,Int.le_refl _,hp⟩
 ·exact ⟨md_lt hp,md_lt hp⟩
theorem mulP_lt {p:Int} (hp:0<p) {a:Pt} (ha:a.lt p):∀ (k n:Nat),(mulP p a k n).lt p
 | 0,n=>⟨⟨Int.le_refl _,hp⟩,Int.le_refl _,hp⟩
 | k+1,n=>by
  unfold mulP
  split
  ·exact ⟨⟨Int.le_refl _,hp⟩,Int.le_refl _,hp⟩
  ·simp only
   have h:=mulP_lt hp ha k (n/2)
   have hd:=sumP_lt hp h h
   split
   ·exact sumP_lt hp hd ha
   ·exact hd
theorem mulP_fuel {p:Int} {a:Pt}:∀ (k n:Nat),n<2^k->mulP p a (k+1) n=mulP p a k n
 | 0,n,h=>by
  have:n=0:=by simpa using h
  subst this;rfl
 | k+1,n,h=>by
  have ih:=mulP_fuel (p:=p) (a:=a) k (n/2) (by rw [Nat.pow_succ] at h;omega)
  have e1:∀ j,mulP p a (j+1) n=if n=0 then ⟨0,0,1⟩ else (if n%2=1 then sumP p (sumP p (mulP p a j (n/2)) (mulP p a j (n/2))) a else sumP p (mulP p a j (n/2)) (mulP p a j (n/2))):=fun j=>rfl
  rw [e1,e1,ih]
theorem mulP_step {p:Int} {a:Pt} {n:Nat} (h:n<2^64):mulP p a 64 n=(if n%2=1 then sumP p (sumP p (mulP p a 64 (n/2)) (mulP p a 64 (n/2))) a else sumP p (mulP p a 64 (n/2)) (mulP p a 64 (n/2))):=by
 have hf:mulP p a 64 (n/2)=mulP p a 63 (n/2):=mulP_fuel 63 (n/2) (by omega)
 rw [hf]
 conv=>lhs;unfold mulP
 split
 ·rename_i h0
  subst h0
  rfl
 ·rfl
def TimesI (p:Int) (a:Pt) (n:Int):List Int->Prop
 | [i,x,y,z]=>-1<=i/\i<=63/\(⟨x,y,z⟩:Pt)=mulP p a 64 (n/2^(i+1).toNat).toNat
 | _=>False
def tLTimes:Tree:=(.req 0 [.var 9]
(.lett 10 (.int .i64) (.app 0 0 [.var 9])
(.lett 11 (.int .i64) (.bin .sub .i64 (.var 10) (.lit 1))
(.loop [.var 11,.lit 0,.lit 0,.lit 1] [(.int .i64),(.int .u64),(.int .u64),.bit] 12
(.lett 16 .bit (.cmp .geq (.var 12) (.lit 0))
(.split 16
(.req 1 [.var 0,.var 1,.var 2,.var 3,.var 4,.var 5,.var 13,.var 14,.var 15,.var 13,.var 14,.var 15]
(.lett 17 (.int .u64) (.app 1 0 [.var 0,.var 1,.var 2,.var 3,.var 4,.var 5,.var 13,.var 14,.var 15,.var 13,.var 14,.var 15])
(.lett 18 (.int .u64) (.app 1 1 [.var 0,.var 1,.var 2,.var 3,.var 4,.var 5,.var 13,.var 14,.var 15,.var 13,.var 14,.var 15])
(.lett 19 .bit (.app 1 2 [.var 0,.var 1,.var 2,.var 3,.var 4,.var 5,.var 13,.var 14,.var 15,.var 13,.var 14,.var 15])
(.lett 20 .bit (.cmp .leq (.lit 0) (.var 12))
(.lett 21 (.int .u64) (.bin .shr .u64 (.var 9) (.var 12))
(.nz (.var 20)
(.lett 22 (.int .u64) (.bin .and .u64 (.var 21) (.lit 1))
(.lett 23 .bit (.cmp .eql (.var 22) (.lit 1))
(.split 23
 (.req 1 [.var 0,.var 1,.var 2,.var 3,.var 4,.var 5,.var 17,.var 18,.var 19,.var 6,.var 7,.var 8]
 (.lett 24 (.int .u64) (.app 1 0 [.var 0,.var 1,.var 2,.var 3,.var 4,.var 5,.var 17,.var 18,.var 19,.var 6,.var 7,.var 8])
 (.lett 25 (.int .u64) (.app 1 1 [.var 0,.var 1,.var 2,.var 3,.var 4,.var 5,.var 17,.var 18,.var 19,.var 6,.var 7,.var 8])
 (.lett 26 .bit (.app 1 2 [.var 0,.var 1,.var 2,.var 3,.var 4,.var 5,.var 17,.var 18,.var 19,.var 6,.var 7,.var 8])
 (.lett 27 (.int .i64) (.bin .sub .i64 (.var 12) (.lit 1))
 (.back 0 [.var 27,.var 24,.var 25,.var 26]))))))
 (.lett 24 (.int .i64) (.bin .sub .i64 (.var 12) (.lit 1))
 (.back 0 [.var 24,.var 17,.var 18,.var 19]))))))))))))
(.ret [.var 13,.var 14,.var 15])))))))
theorem law_lTimes (f1 f2 f:FuncId) (e:Nat->Int) (hk:kkHas [.int .u64,.int .u64,.int .u64,.int .u64,.int .u64,.bit,.int .u64,.int .u64,.bit,.int .u64] [e 0,e 1,e 2,e 3,e 4,e 5,e 6,e 7,e 8,e 9]) (hp:(kLTimes f).pre [e 0,e 1,e 2,e 3,e 4,e 5,e 6,e 7,e 8,e 9]):tLTimes.says [kLen64 f1,kLSum f2] ⟨fun ys=>ys=(kLTimes f).sem [e 0,e 1,e 2,e 3,e 4,e 5,e 6,e 7,e 8,e 9],[]⟩ e:=by
 obtain ⟨hp,q1,q2⟩:=hp
 have p0:0<e 0:=by have:=hp.1;omega
 obtain ⟨_,_,_,_,_,_,h6,h7,h8,h9,_⟩:=hk
 have u6:=has_u64 h6
 have u7:=has_u64 h7
 have u9:=has_u64 h9
 have ha:(⟨e 6,e 7,e 8⟩:Pt).lt (e 0):=⟨⟨u6.1,q1⟩,u7.1,q2⟩
 simp only [tLTimes,kLen64,kLSum,kLTimes,Tree.says,List.getElem?_cons_zero,List.getElem?_cons_succ,List.map,ev_lit,ev_var,ev_limb,D.ev,List.getD_cons_zero,List.getD_cons_succ]
 refine ⟨trivial,fun a10 _ a11 _=>?_⟩
 have b0:=blen_nn (e 9)
 have b1:=blen_le 64 (e 9) u9.1 (by rw [p64'];exact u9.2)
 have c11:e 11=blen (e 9)-1:=by rw [a11,a10];simp only [binE,wr];omega
 refine ⟨TimesI (e 0) ⟨e 6,e 7,e 8⟩ (e 9),fun | [i,_,_,_]=>(i+1).toNat | _=>0,?_,fun e' he hkk hI=>?_⟩
 ·rw [c11]
  refine ⟨by omega,by omega,?_⟩
  rw [Int.sub_add_cancel]
  have h1:e 9/2^(blen (e 9)).toNat=0:=by
   by_cases hc:e 9<2^(blen (e 9)).toNat
   ·exact Int.ediv_eq_zero_of_lt u9.1 hc
   ·have:=blen_gt (blen (e 9)).toNat (e 9) (by omega);omega
  rw [h1];rfl
 ·obtain ⟨i1,i2,i3⟩:TimesI (e 0) ⟨e 6,e 7,e 8⟩ (e 9) [e' 12,e' 13,e' 14,e' 15]:=hI
  simp only [he 0 (by decide),he 1 (by decide),he 2 (by decide),he 3 (by decide),he 4 (by decide),he 5 (by decide),he 6 (by decide),he 7 (by decide),he 8 (by decide),he 9 (by decide)]
  intro a16 _
  have b16:=c_ge a16
  refine ⟨fun hs=>?_,fun hs=>?_⟩
  ·obtain ⟨n,hi⟩:=Int.eq_ofNat_of_zero_le (show 0<=e' 12 by omega)
   rw [hi,show ((n:Int)+1).toNat=n+1 by omega] at i3
   have hq:(0:Int)<2^n:=Int.pow_pos (by decide)
   have hn0:=Int.ediv_nonneg u9.1 (show (0:Int)<=2^n by omega)
   have hn1:e 9/2^n<18446744073709551616:=Int.lt_of_le_of_lt (Int.ediv_le_self _ u9.1) u9.2
   have hlt:=mulP_lt p0 ha 64 (e 9/2^(n+1)).toNat
   rw [<- i3] at hlt
   have hst:=mulP_step (p:=e 0) (a:=⟨e 6,e 7,e 8⟩) (n:=(e 9/2^n).toNat) (by omega)
   have hhalf:(e 9/2^n).toNat/2=(e 9/2^(n+1)).toNat:=by
    rw [Int.pow_succ,<- Int.ediv_ediv_of_nonneg (by omega)];omega
   rw [hhalf,<- i3] at hst
   refine ⟨⟨hp,hlt.1.2,hlt.2.2,hlt.1.2,hlt.2.2⟩,fun a17 _ a18 _ a19 _ a20 _ a21 _=>⟨bit_nz a20 (by omega),fun a22 _ a23 _=>?_⟩⟩
   have b23:=c_eq a23
   rw [hi] at a21
   have c21:=shr_n a21 (by omega)
   have c22:=and_1 a22 (by rw [c21];exact ⟨hn0,hn1⟩)
   rw [c21] at c22
   have hd:(⟨e' 17,e' 18,e' 19⟩:Pt)=sumP (e 0) ⟨e' 13,e' 14,e' 15⟩ ⟨e' 13,e' 14,e' 15⟩:=by rw [a17,a18,a19];rfl
   have hdl:=sumP_lt p0 hlt hlt
   rw [<- hd] at hdl hst
   refine ⟨fun hs2=>?_,fun hs2=>?_⟩
   ·refine ⟨⟨hp,hdl.1.2,hdl.2.2,q1,q2⟩,fun a24 _ a25 _ a26 _ a27 _=>?_⟩
    have h27:e' 27=n-1:=by rw [a27];simp only [binE,wr];omega
    show TimesI (e 0) ⟨e 6,e 7,e 8⟩ (e 9) [e' 27,e' 24,e' 25,e' 26]/\(e' 27+1).toNat<(e' 12+1).toNat
    rw [h27,hi]
    refine ⟨⟨by omega,by omega,?_⟩,by omega⟩
    rw [show ((n:Int)-1+1).toNat=n by omega,hst,if_pos (by omega),a24,a25,a26];rfl
   ·intro a24 _
    have h24:e' 24=n-1:=by rw [a24];simp only [binE,wr];omega
    show TimesI (e 0) ⟨e 6,e 7,e 8⟩ (e 9) [e' 24,e' 17,e' 18,e' 19]/\(e' 24+1).toNat<(e' 12+1).toNat
    rw [h24,hi]
    refine ⟨⟨by omega,by omega,?_⟩,by omega⟩
    rw [show ((n:Int)-1+1).toNat=n by omega,hst,if_neg (by omega)]
  ·have h1:e' 12=-1:=by omega
   rw [h1] at i3
   have h2:(⟨e' 13,e' 14,e' 15⟩:Pt)=mulP (e 0) ⟨e 6,e 7,e 8⟩ 64 (e 9).toNat:=by
    rw [i3];congr 2
    show e 9/1=e 9
    rw [Int.ediv_one]
   rw [<- h2];rfl
def tLIn:Tree:=(.req 0 [.var 0,.var 1,.var 2,.var 3,.var 4,.var 5,.var 6,.var 7,.var 8]
(.lett 9 .bit (.app 0 0 [.var 0,.var 1,.var 2,.var 3,.var 4,.var 5,.var 6,.var 7,.var 8])
(.split 9
(.req 1 [.var 0,.var 1,.var 2,.var 3,.var 4,.var 5,.var 6,.var 7,.var 8,.var 1]
(.lett 10 (.int .u64) (.app 1 0 [.var 0,.var 1,.var 2,.var 3,.var 4,.var 5,.var 6,.var 7,.var 8,.var 1])
(.lett 11 (.int .u64) (.app 1 1 [.var 0,.var 1,.var 2,.var 3,.var 4,.var 5,.var 6,.var 7,.var 8,.var 1])
(.lett 12 .bit (.app 1 2 [.var 0,.var 1,.var 2,.var 3,.var 4,.var 5,.var 6,.var 7,.var 8,.var 1])
(.ret [.var 12])))))
(.ret [.lit 0]))))
theorem law_lIn (f1 f2 f:FuncId) (e:Nat->Int) (hk:kkHas [.int .u64,.int .u64,.int .u64,.int .u64,.int .u64,.bit,.int .u64,.int .u64,.bit] [e 0,e 1,e 2,e 3,e 4,e 5,e 6,e 7,e 8]) (hp:(kLIn f).pre [e 0,e 1,e 2,e 3,e 4,e 5,e 6,e 7,e 8]):tLIn.says [kLOn f1,kLTimes f2] ⟨fun ys=>ys=(kLIn f).sem [e 0,e 1,e 2,e 3,e 4,e 5,e 6,e 7,e 8],[]⟩ e:=by
 have hp:pOk (e 0):=hp
 have p0:=hp.1
 simp only [tLIn,kLOn,kLTimes,kLIn,Tree.says,List.getElem?_cons_zero,List.getElem?_cons_succ,List.map,ev_lit,ev_var,ev_limb,D.ev,List.getD_cons_zero,List.getD_cons_succ]
 refine ⟨hp,fun a9 _=>?_⟩
 unfold bi at a9 ⊢
 refine ⟨fun h=>?_,fun h=>?_⟩
 ·have hon:onP (e 0) (e 6) (e 7) (e 8):=by
   by_cases hc:onP (e 0) (e 6) (e 7) (e 8)
   ·exact hc
   ·rw [if_neg hc] at a9;omega
  have hb:e 6<e 0/\e 7<e 0:=by
   unfold onP at hon
   split at hon <;> omega
  refine ⟨⟨hp,hb.1,hb.2⟩,fun a10 _ a11 _ a12 k12=>?_⟩
  have hz:e 12=(mulP (e 0) ⟨e 6,e 7,e 8⟩ 64 (e 1).toNat).z:=a12
  have k12:0<=e 12/\e 12<=1:=k12
  by_cases hc:(mulP (e 0) ⟨e 6,e 7,e 8⟩ 64 (e 1).toNat).z≠0
  ·rw [if_pos ⟨hon,hc⟩];congr 1;omega
  ·rw [if_neg (fun hh=>hc hh.2)];congr 1;omega
 ·have hon:¬ onP (e 0) (e 6) (e 7) (e 8):=fun hc=>by rw [if_pos hc] at a9;omega
  rw [if_neg (fun hh=>hon hh.1)]
namespace Rf
end Rf
structure Hom {α β:Type} (Ra:Rg α) (Rb:Rg β) (S:α->β->Prop):Prop where
 add:∀ {a b c d},S a b->S c d->S (Ra.add a c) (Rb.add b d)
 sub:∀ {a b c d},S a b->S c d->S (Ra.sub a c) (Rb.sub b d)
 mul:∀ {a b c d},S a b->S c d->S (Ra.mul a c) (Rb.mul b d)
 md:∀ {a b},S a b->S (Ra.md a) (Rb.md b)
 isz:∀ {a b},S a b->Ra.isz a=Rb.isz b
 za:Ra.isz Ra.zero=true
 zb:Rb.isz Rb.zero=true
 ob:¬ Rb.isz Rb.one=true
 m1:∀ {a b},S a b->S a (Rb.mul b (Rb.mul Rb.one Rb.one))
 m2:∀ {a b},S a b->S a (Rb.mul b (Rb.mul (Rb.mul Rb.one Rb.one) Rb.one))
 m3:∀ {a b h k},S a b->S h k->S (Ra.mul a h) (Rb.mul k (Rb.mul b Rb.one))
 dz:∀ {y z},Rb.isz y=true∨Rb.isz z=true->Rb.isz (Rb.add (Rb.mul y z) (Rb.mul y z))=true
 ma:∀ {a},Ra.isz (Ra.md a)=Ra.isz a
 mb:∀ {b},Rb.isz (Rb.md b)=Rb.isz b
section
variable {α β:Type} {Ra:Rg α} {Rb:Rg β} {S:α->β->Prop}
end
def S1 (A:E2) (a:Int):Prop:=A.1%bP=a%bP/\A.2%bP=0
theorem md0_add {x y:Int} (h:x%bP=0) (k:y%bP=0):(x+y)%bP=0:=by rw [Int.add_emod,h,k];rfl
theorem md0_sub {x y:Int} (h:x%bP=0) (k:y%bP=0):(x-y)%bP=0:=by rw [Int.sub_emod,h,k];rfl
theorem md0_mul {x:Int} (y:Int) (h:x%bP=0):(x*y)%bP=0:=by rw [Int.mul_emod,h,Int.zero_mul];rfl
end Go.Sx
