/- Part Gl of the proof. -/
import Derived.Test.YtaablkpongjlkaaGreatGk
import Derived.Test.YtaablkpongjlkaaGreatGj
import Derived.Test.YtaablkpongjlkaaGreatGi
import Derived.Test.YtaablkpongjlkaaGreatGh
import Derived.Lib.Bytealg
set_option linter.unusedVariables false
set_option linter.unusedSimpArgs false
namespace Go.Sx
open Go Go.RowKit
set_option maxRecDepth 100000
theorem tmT_s1 {o:Int} {P:J E2} {k n:Nat} (h:n%2=1):tmT (RT o) P (k+1) n=J.md (RT o) (addT (RT o) (J.md (RT o) (dblT (RT o) (tmT (RT o) P k (n/2)))) P):=if_pos h
theorem tmT_s0 {o:Int} {P:J E2} {k n:Nat} (h:¬ n%2=1):tmT (RT o) P (k+1) n=J.md (RT o) (dblT (RT o) (tmT (RT o) P k (n/2))):=if_neg h
namespace Rf
theorem nz_ {v:Int} {p q:Prop} (b:(v=1/\p)∨(v=0/\q)) (hq:¬ q):v≠0:=by
 rcases b with ⟨h,_⟩ | ⟨_,h⟩
 ·rw [h];decide
 ·exact absurd h hq
def tTMulti:Tree:=(.lett 9 (.int .i64) (.bin .mul .i64 (.lit 64) (.var 8))
(.lett 10 (.int .i64) (.bin .sub .i64 (.var 9) (.lit 1))
(.loop [.var 10,.lit 0,.lit 0,.lit 0,.lit 0,.lit 0,.lit 0,.var 6] [(.int .i64),.num,.num,.num,.num,.num,.num,.bit] 11
(.lett 19 .bit (.cmp .geq (.var 11) (.lit 0))
(.split 19
(.req 0 [.var 12,.var 13,.var 14,.var 15,.var 16,.var 17,.var 18]
(.lett 20 .num (.app 0 0 [.var 12,.var 13,.var 14,.var 15,.var 16,.var 17,.var 18])
(.lett 21 .num (.app 0 1 [.var 12,.var 13,.var 14,.var 15,.var 16,.var 17,.var 18])
(.lett 22 .num (.app 0 2 [.var 12,.var 13,.var 14,.var 15,.var 16,.var 17,.var 18])
(.lett 23 .num (.app 0 3 [.var 12,.var 13,.var 14,.var 15,.var 16,.var 17,.var 18])
(.lett 24 .num (.app 0 4 [.var 12,.var 13,.var 14,.var 15,.var 16,.var 17,.var 18])
(.lett 25 .num (.app 0 5 [.var 12,.var 13,.var 14,.var 15,.var 16,.var 17,.var 18])
(.lett 26 .bit (.app 0 6 [.var 12,.var 13,.var 14,.var 15,.var 16,.var 17,.var 18])
(.lett 27 (.int .i64) (.bin .quo .i64 (.var 11) (.lit 64))
(.lett 28 .bit (.cmp .leq (.lit 0) (.var 27))
(.lett 29 .bit (.cmp .lss (.var 27) (.var 8))
(.nz (.var 28)
(.nz (.var 29)
(.lett 30 (.int .u64) (.lget (.var 7) (.var 27))
(.lett 31 (.int .i64) (.bin .rem .i64 (.var 11) (.lit 64))
(.lett 32 .bit (.cmp .leq (.lit 0) (.var 31))
(.lett 33 (.int .u64) (.bin .shr .u64 (.var 30) (.var 31))
(.nz (.var 32)
(.lett 34 (.int .u64) (.bin .and .u64 (.var 33) (.lit 1))
(.lett 35 .bit (.cmp .eql (.var 34) (.lit 1))
(.split 35
 (.req 1 [.var 20,.var 21,.var 22,.var 23,.var 24,.var 25,.var 26,.var 0,.var 1,.var 2,.var 3,.var 4,.var 5,.var 6]
 (.lett 36 .num (.app 1 0 [.var 20,.var 21,.var 22,.var 23,.var 24,.var 25,.var 26,.var 0,.var 1,.var 2,.var 3,.var 4,.var 5,.var 6])
 (.lett 37 .num (.app 1 1 [.var 20,.var 21,.var 22,.var 23,.var 24,.var 25,.var 26,.var 0,.var 1,.var 2,.var 3,.var 4,.var 5,.var 6])
 (.lett 38 .num (.app 1 2 [.var 20,.var 21,.var 22,.var 23,.var 24,.var 25,.var 26,.var 0,.var 1,.var 2,.var 3,.var 4,.var 5,.var 6])
 (.lett 39 .num (.app 1 3 [.var 20,.var 21,.var 22,.var 23,.var 24,.var 25,.var 26,.var 0,.var 1,.var 2,.var 3,.var 4,.var 5,.var 6])
 (.lett 40 .num (.app 1 4 [.var 20,.var 21,.var 22,.var 23,.var 24,.var 25,.var 26,.var 0,.var 1,.var 2,.var 3,.var 4,.var 5,.var 6])
 (.lett 41 .num (.app 1 5 [.var 20,.var 21,.var 22,.var 23,.var 24,.var 25,.var 26,.var 0,.var 1,.var 2,.var 3,.var 4,.var 5,.var 6])
 (.lett 42 .bit (.app 1 6 [.var 20,.var 21,.var 22,.var 23,.var 24,.var 25,.var 26,.var 0,.var 1,.var 2,.var 3,.var 4,.var 5,.var 6])
 (.lett 43 (.int .i64) (.bin .sub .i64 (.var 11) (.lit 1))
 (.back 0 [.var 43,.var 36,.var 37,.var 38,.var 39,.var 40,.var 41,.var 42]))))))))))
 (.lett 36 (.int .i64) (.bin .sub .i64 (.var 11) (.lit 1))
 (.back 0 [.var 36,.var 20,.var 21,.var 22,.var 23,.var 24,.var 25,.var 26])))))))))))))))))))))))
(.ret [.var 12,.var 13,.var 14,.var 15,.var 16,.var 17,.var 18]))))))
theorem law_tMulti (f1 f2 f:FuncId) (e:Nat->Int) (hk:kkHas [.num,.num,.num,.num,.num,.num,.bit,.lst (.int .u64),.int .i64] [e 0,e 1,e 2,e 3,e 4,e 5,e 6,e 7,e 8]) (hp:(kTMulti f).pre [e 0,e 1,e 2,e 3,e 4,e 5,e 6,e 7,e 8]):tTMulti.says [kTDbl f1,kTAdd f2] ⟨fun ys=>ys=(kTMulti f).sem [e 0,e 1,e 2,e 3,e 4,e 5,e 6,e 7,e 8],[]⟩ e:=by
 obtain ⟨hP,n0,n1,n2⟩:((e 0<bP/\e 1<bP)/\(e 2<bP/\e 3<bP)/\(e 4<bP/\e 5<bP))/\0<=e 8/\e 8<=100/\e 8<=((dec (e 7)).length:Int):=hp
 obtain ⟨_,_,_,_,_,_,_,h7,_⟩:=hk
 have h7:isW (dec (e 7)):=fun x hx=>by
  have:=h7.2 x hx
  have:0<=x/\x<=18446744073709551615:=this
  omega
 show tTMulti.says _ ⟨fun ys=>ys=(tmT (RT (e 6)) (of2 (e 0) (e 1) (e 2) (e 3) (e 4) (e 5)) (64*e 8).toNat (numT (dec (e 7)) (e 8))).tl++[e 6],[]⟩ e
 intro a9 k9
 have v9:e 9=binE .mul .i64 64 (e 8):=a9
 clear a9 k9
 have w9:e 9=64*e 8:=by rw [v9];simp only [binE,wr];omega
 intro a10 k10
 have v10:e 10=(e 9)-1:=by
  have h:e 10=binE .sub .i64 (e 9) 1:=a10
  rw [h];simp only [binE,wr];omega
 clear a10 k10
 refine ⟨fun us=>∃ i,us=i::((tmT (RT (e 6)) (of2 (e 0) (e 1) (e 2) (e 3) (e 4) (e 5)) (64*e 8-1-i).toNat (numT (dec (e 7)) (e 8)/2^(i+1).toNat)).tl++[e 6])/\-1<=i/\i<=64*e 8-1,fun us=>(us.getD 0 0+1).toNat,⟨e 10,by rw [show (64*e 8-1-e 10).toNat=0 by omega];rfl,by omega,by omega⟩,fun e' he0 hkk0 hI0=>?_⟩
 obtain ⟨i,hi,i0,i1⟩:=hI0
 have hi:[e' 11,e' 12,e' 13,e' 14,e' 15,e' 16,e' 17,e' 18]=_:=hi
 injection hi with j0 hi
 generalize hS:tmT (RT (e 6)) (of2 (e 0) (e 1) (e 2) (e 3) (e 4) (e 5)) (64*e 8-1-i).toNat (numT (dec (e 7)) (e 8)/2^(i+1).toNat)=S at hi
 have hM:J.md (RT (e 6)) S=S:=by rw [<- hS];exact tmT_md _ _ _ _
 have g6:e' 18=e 6:=by
  unfold J.tl at hi
  injection hi with _ hi
  injection hi with _ hi
  injection hi with _ hi
  injection hi with _ hi
  injection hi with _ hi
  injection hi with _ hi
  injection hi with hi _
 have hi:[e' 12,e' 13,e' 14,e' 15,e' 16,e' 17]=S.tl:=List.append_inj_left (t₁:=[e' 18]) (t₂:=[e 6]) hi rfl
 have hl:=tl_lt hi hM
 have hO:=tl_of2 hi
 have g8:e' 8=e 8:=he0 8 (by decide)
 have g7:e' 7=e 7:=he0 7 (by decide)
 have f6:e' 6=e 6:=he0 6 (by decide)
 have hPb:(e' 0<bP/\e' 1<bP)/\(e' 2<bP/\e' 3<bP)/\(e' 4<bP/\e' 5<bP):=by
  rw [he0 0 (by decide),he0 1 (by decide),he0 2 (by decide),he0 3 (by decide),he0 4 (by decide),he0 5 (by decide)];exact hP
 have hQ:of2 (e' 0) (e' 1) (e' 2) (e' 3) (e' 4) (e' 5)=of2 (e 0) (e 1) (e 2) (e 3) (e 4) (e 5):=by
  rw [he0 0 (by decide),he0 1 (by decide),he0 2 (by decide),he0 3 (by decide),he0 4 (by decide),he0 5 (by decide)]
 intro a19 k19
 have b19:=c_ge a19
 simp only [ev_var,ev_lit,ev_limb] at b19
 clear a19 k19
 refine ⟨fun h=>?_,fun h=>?_⟩
 ·have c19:=h
  have z1:e' 11≥0:=b_yes b19 c19
  refine ⟨hl,?_⟩
  intro a20 k20
  have q20:=(show e' 20=((dblT (RT (e' 18)) (of2 (e' 12) (e' 13) (e' 14) (e' 15) (e' 16) (e' 17))).l2++[e' 18]).getD 0 0 from a20)
  clear a20 k20
  intro a21 k21
  have q21:=(show e' 21=((dblT (RT (e' 18)) (of2 (e' 12) (e' 13) (e' 14) (e' 15) (e' 16) (e' 17))).l2++[e' 18]).getD 1 0 from a21)
  clear a21 k21
  intro a22 k22
  have q22:=(show e' 22=((dblT (RT (e' 18)) (of2 (e' 12) (e' 13) (e' 14) (e' 15) (e' 16) (e' 17))).l2++[e' 18]).getD 2 0 from a22)
  clear a22 k22
  intro a23 k23
  have q23:=(show e' 23=((dblT (RT (e' 18)) (of2 (e' 12) (e' 13) (e' 14) (e' 15) (e' 16) (e' 17))).l2++[e' 18]).getD 3 0 from a23)
  clear a23 k23
  intro a24 k24
  have q24:=(show e' 24=((dblT (RT (e' 18)) (of2 (e' 12) (e' 13) (e' 14) (e' 15) (e' 16) (e' 17))).l2++[e' 18]).getD 4 0 from a24)
  clear a24 k24
  intro a25 k25
  have q25:=(show e' 25=((dblT (RT (e' 18)) (of2 (e' 12) (e' 13) (e' 14) (e' 15) (e' 16) (e' 17))).l2++[e' 18]).getD 5 0 from a25)
  clear a25 k25
  intro a26 k26
  have q26:=(show e' 26=((dblT (RT (e' 18)) (of2 (e' 12) (e' 13) (e' 14) (e' 15) (e' 16) (e' 17))).l2++[e' 18]).getD 6 0 from a26)
  clear a26 k26
  rw [hO,g6] at q20 q21 q22 q23 q24 q25 q26
  generalize hD:J.md (RT (e 6)) (dblT (RT (e 6)) S)=Dd
  have hDl:[e' 20,e' 21,e' 22,e' 23,e' 24,e' 25]=Dd.tl:=by rw [<- hD,q20,q21,q22,q23,q24,q25];rfl
  have hDm:J.md (RT (e 6)) Dd=Dd:=by rw [<- hD];exact md_md _
  have hDo:=tl_of2 hDl
  have hDb:=tl_lt hDl hDm
  have q26:e' 26=e 6:=q26
  have g26:e' 6=e' 26:=f6.trans q26.symm
  clear q20 q21 q22 q23 q24 q25
  intro a27 k27
  have v27:e' 27=binE .quo .i64 (e' 11) 64:=a27
  clear a27 k27
  have w27:e' 27=e' 11/64:=by
   rw [v27];simp only [binE,wr];rw [Int.tdiv_eq_ediv_of_nonneg z1];omega
  intro a28 k28
  have b28:=c_le a28
  simp only [ev_var,ev_lit,ev_limb] at b28
  clear a28 k28
  intro a29 k29
  have b29:=c_lt a29
  simp only [ev_var,ev_lit,ev_limb] at b29
  clear a29 k29
  refine ⟨nz_ b28 (by omega),?_⟩
  refine ⟨nz_ b29 (by omega),?_⟩
  clear b28 b29
  intro a30 k30
  have v30:e' 30=(dec (e' 7)).getD (e' 27).toNat 0:=a30
  clear a30 k30
  intro a31 k31
  have v31:e' 31=binE .rem .i64 (e' 11) 64:=a31
  clear a31 k31
  have w31:e' 31=e' 11%64:=by
   rw [v31];simp only [binE];exact Int.tmod_eq_emod_of_nonneg z1
  intro a32 k32
  have b32:=c_le a32
  simp only [ev_var,ev_lit,ev_limb] at b32
  clear a32 k32
  intro a33 k33
  have v33:e' 33=binE .shr .u64 (e' 30) (e' 31):=a33
  clear a33
  have w33:e' 33=e' 30/2^(e' 31).toNat:=shr_n (v33.trans (by rw [Int.toNat_of_nonneg (by omega)])) (by omega)
  refine ⟨nz_ b32 (by omega),?_⟩
  clear b32
  intro a34 k34
  have v34:e' 34=binE .and .u64 (e' 33) 1:=a34
  clear a34 k34
  have w34:e' 34=e' 33%2:=and_1 v34 (by have:0<=e' 33/\e' 33<=18446744073709551615:=k33;exact ⟨this.1,by omega⟩)
  have hb:=num_bit h7 (i:=i) (by omega) (by omega) n2
  have w34:e' 34=((numT (dec (e 7)) (e 8)/2^i.toNat%2:Nat):Int):=by rw [hb,w34,w33,v30,w27,w31,j0,g7]
  clear hb k33
  intro a35 k35
  have b35:=c_eq a35
  simp only [ev_var,ev_lit,ev_limb] at b35
  clear a35 k35
  refine ⟨fun h=>?_,fun h=>?_⟩
  ·have c35:=h
   have z2:=b_yes b35 c35
   refine ⟨⟨g26,hDb,hPb⟩,?_⟩
   intro a36 k36
   have q36:=(show e' 36=((addT (RT (e' 26)) (of2 (e' 20) (e' 21) (e' 22) (e' 23) (e' 24) (e' 25)) (of2 (e' 0) (e' 1) (e' 2) (e' 3) (e' 4) (e' 5))).l2++[e' 26]).getD 0 0 from a36)
   clear a36 k36
   intro a37 k37
   have q37:=(show e' 37=((addT (RT (e' 26)) (of2 (e' 20) (e' 21) (e' 22) (e' 23) (e' 24) (e' 25)) (of2 (e' 0) (e' 1) (e' 2) (e' 3) (e' 4) (e' 5))).l2++[e' 26]).getD 1 0 from a37)
   clear a37 k37
   intro a38 k38
   have q38:=(show e' 38=((addT (RT (e' 26)) (of2 (e' 20) (e' 21) (e' 22) (e' 23) (e' 24) (e' 25)) (of2 (e' 0) (e' 1) (e' 2) (e' 3) (e' 4) (e' 5))).l2++[e' 26]).getD 2 0 from a38)
   clear a38 k38
   intro a39 k39
   have q39:=(show e' 39=((addT (RT (e' 26)) (of2 (e' 20) (e' 21) (e' 22) (e' 23) (e' 24) (e' 25)) (of2 (e' 0) (e' 1) (e' 2) (e' 3) (e' 4) (e' 5))).l2++[e' 26]).getD 3 0 from a39)
   clear a39 k39
   intro a40 k40
   have q40:=(show e' 40=((addT (RT (e' 26)) (of2 (e' 20) (e' 21) (e' 22) (e' 23) (e' 24) (e' 25)) (of2 (e' 0) (e' 1) (e' 2) (e' 3) (e' 4) (e' 5))).l2++[e' 26]).getD 4 0 from a40)
   clear a40 k40
   intro a41 k41
   have q41:=(show e' 41=((addT (RT (e' 26)) (of2 (e' 20) (e' 21) (e' 22) (e' 23) (e' 24) (e' 25)) (of2 (e' 0) (e' 1) (e' 2) (e' 3) (e' 4) (e' 5))).l2++[e' 26]).getD 5 0 from a41)
   clear a41 k41
   intro a42 k42
   have q42:=(show e' 42=((addT (RT (e' 26)) (of2 (e' 20) (e' 21) (e' 22) (e' 23) (e' 24) (e' 25)) (of2 (e' 0) (e' 1) (e' 2) (e' 3) (e' 4) (e' 5))).l2++[e' 26]).getD 6 0 from a42)
   clear a42 k42
   intro a43 k43
   have v43:e' 43=(e' 11)-1:=by
    have h:e' 43=binE .sub .i64 (e' 11) 1:=a43
    rw [h];simp only [binE,wr];omega
   clear a43 k43
   have hk:(64*e 8-1-(i-1)).toNat=(64*e 8-1-i).toNat+1:=by omega
   have hn:(i-1+1).toNat=i.toNat:=by omega
   have hd:numT (dec (e 7)) (e 8)/2^i.toNat/2=numT (dec (e 7)) (e 8)/2^(i+1).toNat:=by rw [show (i+1).toNat=i.toNat+1 by omega,Nat.pow_succ,Nat.div_div_eq_div_mul]
   have hb1:numT (dec (e 7)) (e 8)/2^i.toNat%2=1:=by omega
   rw [q26,hDo,hQ] at q36 q37 q38 q39 q40 q41 q42
   refine ⟨⟨i-1,?_,by omega,by omega⟩,?_⟩
   ·rw [hk,hn,tmT_s1 hb1,hd,hS,hD]
    show [e' 43,e' 36,e' 37,e' 38,e' 39,e' 40,e' 41,e' 42]=_
    rw [q36,q37,q38,q39,q40,q41,q42,v43,j0];rfl
   ·show (e' 43+1).toNat<(e' 11+1).toNat
    omega
  ·have c35:=h
   have z2:=b_no b35 c35
   intro a36 k36
   have v36:e' 36=(e' 11)-1:=by
    have h:e' 36=binE .sub .i64 (e' 11) 1:=a36
    rw [h];simp only [binE,wr];omega
   clear a36 k36
   have hk:(64*e 8-1-(i-1)).toNat=(64*e 8-1-i).toNat+1:=by omega
   have hn:(i-1+1).toNat=i.toNat:=by omega
   have hd:numT (dec (e 7)) (e 8)/2^i.toNat/2=numT (dec (e 7)) (e 8)/2^(i+1).toNat:=by rw [show (i+1).toNat=i.toNat+1 by omega,Nat.pow_succ,Nat.div_div_eq_div_mul]
   have hb1:¬ numT (dec (e 7)) (e 8)/2^i.toNat%2=1:=by omega
   refine ⟨⟨i-1,?_,by omega,by omega⟩,?_⟩
   ·rw [hk,hn,tmT_s0 hb1,hd,hS,hD,<- hDl]
    show [e' 36,e' 20,e' 21,e' 22,e' 23,e' 24,e' 25,e' 26]=_
    rw [q26,v36,j0];rfl
   ·show (e' 36+1).toNat<(e' 11+1).toNat
    omega
 ·have c19:=h
  have z1:¬ e' 11≥0:=b_no b19 c19
  show [e' 12,e' 13,e' 14,e' 15,e' 16,e' 17,e' 18]=_
  have hi1:i=-1:=by omega
  rw [hi1,show (64*e 8-1 - -1).toNat=(64*e 8).toNat by omega,show ((-1:Int)+1).toNat=0 from rfl,Nat.pow_zero,Nat.div_one] at hS
  rw [hS,<- hi,g6];rfl
end Rf
structure Hom {α β:Type} (Ra:Rg α) (Rb:Rg β) (S:α->β->Prop):Prop where
 add:∀ {a b c d},S a b->S c d->S (Ra.add a c) (Rb.add b d)
 sub:∀ {a b c d},S a b->S c d->S (Ra.sub a c) (Rb.sub b d)
 mul:∀ {a b c d},S a b->S c d->S (Ra.mul a c) (Rb.mul b d)
 md:∀ {a b},S a b->S (Ra.md a) (Rb.md b)
 isz:∀ {a b},S a b->Ra.isz a=Rb.isz b
 za:Ra.isz Ra.zero=true
 zb:Rb.isz Rb.zero=true
 ob:¬ Rb.isz Rb.one=true
 m1:∀ {a b},S a b->S a (Rb.mul b (Rb.mul Rb.one Rb.one))
 m2:∀ {a b},S a b->S a (Rb.mul b (Rb.mul (Rb.mul Rb.one Rb.one) Rb.one))
 m3:∀ {a b h k},S a b->S h k->S (Ra.mul a h) (Rb.mul k (Rb.mul b Rb.one))
 dz:∀ {y z},Rb.isz y=true∨Rb.isz z=true->Rb.isz (Rb.add (Rb.mul y z) (Rb.mul y z))=true
 ma:∀ {a},Ra.isz (Ra.md a)=Ra.isz a
 mb:∀ {b},Rb.isz (Rb.md b)=Rb.isz b
section
variable {α β:Type} {Ra:Rg α} {Rb:Rg β} {S:α->β->Prop}
def SJ (Ra:Rg α) (Rb:Rg β) (S:α->β->Prop) (P:J α) (Q:J β):Prop:=(Ra.isz P.z=true/\Rb.isz Q.z=true)∨(¬ Ra.isz P.z=true/\S P.x Q.x/\S P.y Q.y/\S P.z Q.z)
theorem SJ_of {P:J α} {Q:J β} (H:Hom Ra Rb S) (hx:S P.x Q.x) (hy:S P.y Q.y) (hz:S P.z Q.z):SJ Ra Rb S P Q:=by
 by_cases h:Ra.isz P.z=true
 ·exact Or.inl ⟨h,by rw [<- H.isz hz];exact h⟩
 ·exact Or.inr ⟨h,hx,hy,hz⟩
theorem SJ_md {P:J α} {Q:J β} (H:Hom Ra Rb S) (h:SJ Ra Rb S P Q):SJ Ra Rb S (J.md Ra P) (J.md Rb Q):=by
 rcases h with ⟨h,k⟩ | ⟨h,hx,hy,hz⟩
 ·exact Or.inl ⟨(H.ma).trans h,(H.mb).trans k⟩
 ·exact SJ_of H (H.md hx) (H.md hy) (H.md hz)
theorem dblJ_hom {P:J α} {Q:J β} (H:Hom Ra Rb S) (hx:S P.x Q.x) (hy:S P.y Q.y) (hz:S P.z Q.z):SJ Ra Rb S (dblJ Ra P) (dblJ Rb Q):=by
 have yy:=H.mul hy hy
 have s:=H.mul hx yy
 have s:=H.add s s
 have s:=H.add s s
 have m:=H.mul hx hx
 have m:=H.add (H.add m m) m
 have x:=H.sub (H.mul m m) (H.add s s)
 have e:=H.mul yy yy
 have e:=H.add e e
 have e:=H.add e e
 have e:=H.add e e
 have z:=H.mul hy hz
 exact SJ_of H x (H.sub (H.mul m (H.sub s x)) e) (H.add z z)
theorem SJ_dbl {P:J α} {Q:J β} (H:Hom Ra Rb S) (h:SJ Ra Rb S P Q):SJ Ra Rb S (dblT Ra P) (dblJ Rb Q):=by
 rcases h with ⟨h,k⟩ | ⟨h,hx,hy,hz⟩
 ·rw [dblT_z (Or.inl h)]
  exact Or.inl ⟨H.za,H.dz (Or.inr k)⟩
 ·by_cases hc:Ra.isz P.y=true
  ·rw [dblT_z (Or.inr hc)]
   exact Or.inl ⟨H.za,H.dz (Or.inl (by rw [<- H.isz hy];exact hc))⟩
  ·rw [dblT_n h hc]
   exact dblJ_hom H hx hy hz
theorem SJ_add {P u:J α} {Q q:J β} (H:Hom Ra Rb S) (h:SJ Ra Rb S P Q) (ux:S u.x q.x) (uy:S u.y q.y) (uz:S u.z q.z) (q1:q.z=Rb.one):SJ Ra Rb S (addT Ra P u) (sumJ Rb Q q):=by
 have hq:¬ Rb.isz q.z=true:=by rw [q1];exact H.ob
 have hu:¬ Ra.isz u.z=true:=by rw [H.isz uz];exact hq
 rcases h with ⟨h,k⟩ | ⟨h,hx,hy,hz⟩
 ·rw [addT_0 h,sumJ_z1 k]
  exact Or.inr ⟨hu,ux,uy,uz⟩
 ·have k:¬ Rb.isz Q.z=true:=by rw [<- H.isz hz];exact h
  have zz:=H.mul hz hz
  have x1:S P.x (Rb.mul Q.x (Rb.mul q.z q.z)):=by rw [q1];exact H.m1 hx
  have y1:S P.y (Rb.mul Q.y (Rb.mul (Rb.mul q.z q.z) q.z)):=by rw [q1];exact H.m2 hy
  have hh:S (hT Ra P u) (hJ Rb Q q):=H.sub (H.mul ux zz) x1
  have hr:S (kTJ Ra P u) (rJ Rb Q q):=H.sub (H.mul uy (H.mul zz hz)) y1
  by_cases c1:Ra.isz (hT Ra P u)=true
  ·have d1:Rb.isz (hJ Rb Q q)=true:=by rw [<- H.isz hh];exact c1
   by_cases c2:Ra.isz (kTJ Ra P u)=true
   ·rw [addT_d h c1 c2,sumJ_dbl k hq d1 (by rw [<- H.isz hr];exact c2)]
    exact SJ_dbl H (Or.inr ⟨h,hx,hy,hz⟩)
   ·rw [addT_o h c1 c2,sumJ_opp k hq d1 (by rw [<- H.isz hr];exact c2)]
    exact Or.inl ⟨H.za,H.zb⟩
  ·rw [addT_g h c1,sumJ_gen k hq (by rw [<- H.isz hh];exact c1)]
   have h2:=H.mul hh hh
   have h3:=H.mul h2 hh
   have v:=H.mul x1 h2
   have v':S (Ra.mul P.x (Ra.mul (hT Ra P u) (hT Ra P u))) _:=v
   have x:=H.sub (H.sub (H.mul hr hr) h3) (H.add v v)
   exact SJ_of H x (H.sub (H.mul hr (H.sub v x)) (H.mul y1 h3)) (show S (Ra.mul P.z (hT Ra P u)) (Rb.mul (hJ Rb Q q) (Rb.mul Q.z q.z)) by rw [q1];exact H.m3 hz hh)
theorem tmT_0 {u:J α} (H:Hom Ra Rb S):∀ k,Ra.isz (tmT Ra u k 0).z=true
 | 0=>H.za
 | k+1=>by
  show Ra.isz (if (0:Nat)%2=1 then _ else J.md Ra (dblT Ra (tmT Ra u k (0/2)))).z=true
  rw [if_neg (by decide)]
  have h:=tmT_0 (u:=u) H k
  rw [show 0/2=0 from rfl,dblT_z (Or.inl h)]
  exact (H.ma).trans H.za
theorem SJ_tm {u:J α} {q:J β} (H:Hom Ra Rb S) (ux:S u.x q.x) (uy:S u.y q.y) (uz:S u.z q.z) (q1:q.z=Rb.one):∀ k n,n<2^k->SJ Ra Rb S (tmT Ra u k n) (tmJ Rb q k n)
 | 0,n,h=>Or.inl ⟨H.za,H.zb⟩
 | k+1,n,h=>by
  by_cases hn:n=0
  ·subst hn
   exact Or.inl ⟨tmT_0 H (k+1),by show Rb.isz (if 0=0 then oJ Rb else _).z=true;rw [if_pos rfl];exact H.zb⟩
  ·have ih:=SJ_tm (u:=u) (q:=q) H ux uy uz q1 k (n/2) (by rw [Nat.pow_succ] at h;omega)
   have d:=SJ_md H (SJ_dbl H ih)
   have e1:tmJ Rb q (k+1) n=if n=0 then oJ Rb else (if n%2=1 then J.md Rb (sumJ Rb (J.md Rb (dblJ Rb (tmJ Rb q k (n/2)))) q) else J.md Rb (dblJ Rb (tmJ Rb q k (n/2)))):=rfl
   have e2:tmT Ra u (k+1) n=if n%2=1 then J.md Ra (addT Ra (J.md Ra (dblT Ra (tmT Ra u k (n/2)))) u) else J.md Ra (dblT Ra (tmT Ra u k (n/2))):=rfl
   rw [e1,e2,if_neg hn]
   by_cases hb:n%2=1
   ·rw [if_pos hb,if_pos hb]
    exact SJ_md H (SJ_add H d ux uy uz q1)
   ·rw [if_neg hb,if_neg hb]
    exact d
theorem tmJ_more {R:Rg β} {P:J β} {k n:Nat} (h:n<2^k):∀ j,tmJ R P (k+j) n=tmJ R P k n
 | 0=>rfl
 | j+1=>by
  have h2:n<2^(k+j):=Nat.lt_of_lt_of_le h (Nat.pow_le_pow_right (by decide) (Nat.le_add_right _ _))
  rw [<- Nat.add_assoc,tmJ_fuel _ _ h2]
  exact tmJ_more h j
end
def S1 (A:E2) (a:Int):Prop:=A.1%bP=a%bP/\A.2%bP=0
theorem one_ne:¬ (1:Int)%bP=0:=by decide
theorem isz1 {o x y:Int}:(RT o).isz (x,y)=true↔x%bP=0/\y%bP=0:=by
 show (x%bP==0&&y%bP==0)=true↔_
 rw [Bool.and_eq_true,beq_iff_eq,beq_iff_eq]
theorem md0_add {x y:Int} (h:x%bP=0) (k:y%bP=0):(x+y)%bP=0:=by rw [Int.add_emod,h,k];rfl
theorem md0_sub {x y:Int} (h:x%bP=0) (k:y%bP=0):(x-y)%bP=0:=by rw [Int.sub_emod,h,k];rfl
theorem md0_mul {x:Int} (y:Int) (h:x%bP=0):(x*y)%bP=0:=by rw [Int.mul_emod,h,Int.zero_mul];rfl
def limsI (a:Int):List Int:=[lim a 0,lim a 1,lim a 2,lim a 3,lim a 4,lim a 5]
def wlen (a:Int):Int:=(blen a+63)/64
theorem lt_blen {a:Int} {k:Nat} (h:blen a<=(k:Int)):a.toNat<2^k:=by
 unfold blen at h
 by_cases h0:a<=0
 ·rw [show a.toNat=0 by omega];exact Nat.pow_pos (by decide)
 ·rw [if_neg h0] at h
  exact (Nat.log2_lt (by omega)).1 (by omega)
theorem lim_hi {a:Int} {w j:Nat} (h0:0<=a) (h:a.toNat<2^(64*w)) (hj:w<=j):lim a j=0:=by
 unfold lim p64
 have h2:a.toNat<2^(64*j):=Nat.lt_of_lt_of_le h (Nat.pow_le_pow_right (by decide) (by omega))
 rw [Int.ediv_eq_zero_of_lt h0 (by omega)];rfl
theorem join_lims {a:Int} (h:0<=a/\a<N384):joinE (limsI a)=a:=by
 unfold limsI
 rw [joinE6];exact (lim_eq h).symm
theorem join_take {a:Int} (h:0<=a/\a<N384):∀ w:Nat,w<=6->a.toNat<2^(64*w)->joinE ((limsI a).take w)=a:=by
 intro w hw hl
 have hz:∀ j,w<=j->lim a j=0:=fun j hj=>lim_hi h.1 hl hj
 have hj:=join_lims h
 refine Eq.trans ?_ hj
 clear hj hl h
 match w,hw with
 | 0,_ =>
  unfold limsI
  rw [hz 0 (by omega),hz 1 (by omega),hz 2 (by omega),hz 3 (by omega),hz 4 (by omega),hz 5 (by omega)]
  show joinE []=joinE [0,0,0,0,0,0]
  simp only [joinE,Int.mul_zero,Int.add_zero]
 | 1,_ =>
  unfold limsI
  rw [hz 1 (by omega),hz 2 (by omega),hz 3 (by omega),hz 4 (by omega),hz 5 (by omega)]
  show joinE [lim a 0]=joinE [lim a 0,0,0,0,0,0]
  simp only [joinE,Int.mul_zero,Int.add_zero]
 | 2,_ =>
  unfold limsI
  rw [hz 2 (by omega),hz 3 (by omega),hz 4 (by omega),hz 5 (by omega)]
  show joinE [lim a 0,lim a 1]=joinE [lim a 0,lim a 1,0,0,0,0]
  simp only [joinE,Int.mul_zero,Int.add_zero]
 | 3,_ =>
  unfold limsI
  rw [hz 3 (by omega),hz 4 (by omega),hz 5 (by omega)]
  show joinE [lim a 0,lim a 1,lim a 2]=joinE [lim a 0,lim a 1,lim a 2,0,0,0]
  simp only [joinE,Int.mul_zero,Int.add_zero]
 | 4,_ =>
  unfold limsI
  rw [hz 4 (by omega),hz 5 (by omega)]
  show joinE [lim a 0,lim a 1,lim a 2,lim a 3]=joinE [lim a 0,lim a 1,lim a 2,lim a 3,0,0]
  simp only [joinE,Int.mul_zero,Int.add_zero]
 | 5,_ =>
  unfold limsI
  rw [hz 5 (by omega)]
  show joinE [lim a 0,lim a 1,lim a 2,lim a 3,lim a 4]=joinE [lim a 0,lim a 1,lim a 2,lim a 3,lim a 4,0]
  simp only [joinE,Int.mul_zero,Int.add_zero]
 | 6,_=>rfl
theorem wlen_rng {a:Int} (h:0<=a/\a<N384):0<=wlen a/\wlen a<=6:=by
 have h1:=blen_nn a
 have h2:blen a<=384:=blen_le 384 a h.1 (by rw [p384];exact h.2)
 unfold wlen
 omega
theorem wlen_lt {a:Int} (h:0<=a/\a<N384):a.toNat<2^(64*wlen a).toNat:=by
 have h1:=blen_nn a
 exact lt_blen (by unfold wlen;omega)
theorem num_lims {a:Int} (h:0<=a/\a<N384):numT (limsI a) (wlen a)=a.toNat:=by
 have hw:=wlen_rng h
 unfold numT
 rw [join_take h (wlen a).toNat (by omega) (by rw [show 64*(wlen a).toNat=(64*wlen a).toNat by omega];exact wlen_lt h)]
noncomputable def kWords (te:TypeId) (f:FuncId):K:={fn:=f,ext:=false,ins:=[iN],outs:=[.lent te (.int .u64)],pre:=fun _=>True,sem:=fun | [a]=>[enc (limsI a),wlen a] | _=>[] }
theorem bP_one:(1:Int)<bP:=by decide
theorem twoT_5 (o:Int) (P:J E2):∃ a b c d k,twoT o P=[a,b,c,d,k]:=by
 by_cases h:(RT o).isz P.z=true
 ·exact ⟨_,_,_,_,_,twoT_z h⟩
 ·exact ⟨_,_,_,_,_,twoT_n h⟩
theorem shl_one {v r:Int} (hr:0<=r/\r<64) (h:v=binE .shl .u64 1 r):v=2^r.toNat:=by
 rw [h];simp only [binE,wr]
 rw [show min r.toNat IntKind.u64.bits=r.toNat by show min r.toNat 64=_;omega,Int.one_mul,Int.natCast_pow]
 have:(2:Int)^r.toNat<2^64:=Int.pow_lt_pow_of_lt (by decide) (by omega)
 rw [p64'] at this
 exact Int.emod_eq_of_lt (Int.pow_nonneg (by decide)) this
def byteAt (a:Int) (k:Nat):Int:=a/2^(8*k)%256
def bytesV (a:Int):List Int:=(List.range 48).map fun i=>byteAt a (47-i)
def readV (l:List Int):Int:=l.foldl (fun a b=>256*a+b) 0
theorem bytesV_len (a:Int):(bytesV a).length=48:=by simp [bytesV]
theorem bytesV_get (a:Int) {i:Nat} (h:i<48):(bytesV a)[i]'(by rw [bytesV_len];exact h)=byteAt a (47-i):=by simp [bytesV]
theorem selW {a k s:Int} (hk:0<=k/\k<6) (hs:s=([lim a 0,lim a 1,lim a 2,lim a 3,lim a 4,lim a 5]:List Int).getD k.toNat 0):s=lim a k.toNat:=by
 have:k=0∨k=1∨k=2∨k=3∨k=4∨k=5:=by omega
 rw [hs]
 rcases this with h | h | h | h | h | h <;> rw [h] <;> rfl
theorem chunk (x s:Nat) (hs:s+8<=64):x%18446744073709551616/2^s%256=x/2^s%256:=by
 rw [show 18446744073709551616=2^s*2^(64-s) by rw [<- Nat.pow_add,show s+(64-s)=64 by omega],Nat.mod_mul_right_div_self,Nat.mod_mod_of_dvd]
 exact ⟨2^(56-s),by rw [show (256:Nat)=2^8 from rfl,<- Nat.pow_add];congr 1;omega⟩
theorem min64 {r:Nat} (h:r<=64):min r IntKind.u64.bits=r:=by show min r 64=r;omega
theorem byte_sel {a k j r m s v b:Int} (ha:0<=a) (hk:0<=k/\k<48) (hj:j=k/8) (hr:r=k%8) (hm:m=8*r)
  (hs:s=([lim a 0,lim a 1,lim a 2,lim a 3,lim a 4,lim a 5]:List Int).getD j.toNat 0) (hv:v=binE .shr .u64 s m) (hb:b=wr .u8 v):b=byteAt a k.toNat:=by
 have h1:=selW (by omega) hs
 have h2:=shr_d _ hv rfl (Int.natCast_nonneg _)
 rw [min64 (by omega)] at h2
 rw [hb,h2,h1,lim_div]
 unfold byteAt
 obtain ⟨x,rfl⟩:=Int.eq_ofNat_of_zero_le ha
 have hc:=chunk (x/2^(64*j.toNat)) m.toNat (by omega)
 rw [Nat.div_div_eq_div_mul,<- Nat.pow_add,show 64*j.toNat+m.toNat=8*k.toNat by omega] at hc
 have hc:=congrArg Int.ofNat hc
 generalize 2^m.toNat=u at *
 show (_:Int)%256=_
 have e1:((2:Int)^(64*j.toNat))=((2^(64*j.toNat):Nat):Int):=by rw [Int.natCast_pow];rfl
 have e2:((2:Int)^(8*k.toNat))=((2^(8*k.toNat):Nat):Int):=by rw [Int.natCast_pow];rfl
 rw [e1,e2]
 generalize 2^(64*j.toNat)=y at *
 generalize 2^(8*k.toNat)=z at *
 exact hc
theorem quo_ {i v:Int} (d:Int) (hd:0<d) (hi:0<=i/\i<9223372036854775808) (h:v=binE .quo .i64 i d):v=i/d:=by
 have h0:0<=i/d:=Int.ediv_nonneg hi.1 (by omega)
 have h1:i/d<=i:=Int.ediv_le_self _ hi.1
 rw [h];simp only [binE,wr]
 rw [Int.tdiv_eq_ediv_of_nonneg hi.1]
 omega
theorem rem_ {i v:Int} (d:Int) (hi:0<=i) (h:v=binE .rem .i64 i d):v=i%d:=by
 rw [h];simp only [binE]
 rw [Int.tmod_eq_emod_of_nonneg hi]
theorem mul8 {r v:Int} (hr:0<=r/\r<8) (h:v=binE .mul .i64 8 r):v=8*r:=by
 rw [h];simp only [binE,wr];omega
theorem sub_ {a b v:Int} (h:v=binE .sub .i64 a b) (h0:-9223372036854775808<=a-b/\a-b<=9223372036854775807):v=a-b:=by
 rw [h];simp only [binE,wr];omega
theorem add_ {a b v:Int} (h:v=binE .add .i64 a b) (h0:-9223372036854775808<=a+b/\a+b<=9223372036854775807):v=a+b:=by
 rw [h];simp only [binE,wr];omega
theorem put_joinW {q k v d p0 p1 p2 p3 p4 p5:Int} (hq:0<=q/\q<N384) (hk:0<=k/\k<6) (hv:v=lim q k.toNat+d)
  (h0:p0=if k=((0:Nat):Int) then v else lim q 0) (h1:p1=if k=((1:Nat):Int) then v else lim q 1) (h2:p2=if k=((2:Nat):Int) then v else lim q 2) (h3:p3=if k=((3:Nat):Int) then v else lim q 3) (h4:p4=if k=((4:Nat):Int) then v else lim q 4) (h5:p5=if k=((5:Nat):Int) then v else lim q 5) :
  joinE [p0,p1,p2,p3,p4,p5]=q+d*2^(64*k.toNat):=by
 have ex:=lim_eq hq
 rw [joinE6]
 have:k=0∨k=1∨k=2∨k=3∨k=4∨k=5:=by omega
 have p0':(2:Int)^(64*0)=1:=rfl
 have p1':(2:Int)^(64*1)=18446744073709551616:=p64'
 have p2':(2:Int)^(64*2)=340282366920938463463374607431768211456:=p128
 have p3':(2:Int)^(64*3)=6277101735386680763835789423207666416102355444464034512896:=by decide +kernel
 have p4':(2:Int)^(64*4)=115792089237316195423570985008687907853269984665640564039457584007913129639936:=by decide +kernel
 have p5':(2:Int)^(64*5)=2135987035920910082395021706169552114602704522356652769947041607822219725780640550022962086936576:=by decide +kernel
 rcases this with h | h | h | h | h | h <;> subst h
 ·rw [show (0:Int).toNat=0 from rfl] at *
  rw [p0',h0,h1,h2,h3,h4,h5];simp [hv];omega
 ·rw [show (1:Int).toNat=1 from rfl] at *
  rw [p1',h0,h1,h2,h3,h4,h5];simp [hv];omega
 ·rw [show (2:Int).toNat=2 from rfl] at *
  rw [p2',h0,h1,h2,h3,h4,h5];simp [hv];omega
 ·rw [show (3:Int).toNat=3 from rfl] at *
  rw [p3',h0,h1,h2,h3,h4,h5];simp [hv];omega
 ·rw [show (4:Int).toNat=4 from rfl] at *
  rw [p4',h0,h1,h2,h3,h4,h5];simp [hv];omega
 ·rw [show (5:Int).toNat=5 from rfl] at *
  rw [p5',h0,h1,h2,h3,h4,h5];simp [hv];omega
theorem shl_sm {v c m:Int} (hc:0<=c) (hm:0<=m/\m<=64) (h:v=binE .shl .u64 c m) (hlt:c*2^m.toNat<18446744073709551616):v=c*2^m.toNat:=by
 have h1:=shl_d _ h rfl
 rw [min64 (by omega),Int.natCast_pow] at h1
 have:(0:Int)<=c*2^m.toNat:=Int.mul_nonneg hc (Int.pow_nonneg (by decide))
 rw [h1]
 show c*2^m.toNat%18446744073709551616=_
 exact Int.emod_eq_of_lt this hlt
theorem put_byte {q i k r m s sh v c p0 p1 p2 p3 p4 p5:Int} (hq:0<=q/\q<N384) (hi:0<=i/\i<48) (hk:k=i/8) (hr:r=i%8) (hm:m=8*r) (hc:0<=c/\c<=255)
  (hs:s=([lim q 0,lim q 1,lim q 2,lim q 3,lim q 4,lim q 5]:List Int).getD k.toNat 0) (hsh:sh=binE .shl .u64 c m) (hv:v=binE .or .u64 s sh)
  (h0:p0=if k=((0:Nat):Int) then v else lim q 0) (h1:p1=if k=((1:Nat):Int) then v else lim q 1) (h2:p2=if k=((2:Nat):Int) then v else lim q 2) (h3:p3=if k=((3:Nat):Int) then v else lim q 3) (h4:p4=if k=((4:Nat):Int) then v else lim q 4) (h5:p5=if k=((5:Nat):Int) then v else lim q 5)
  {Q:Int} (hd:q=2^(8*(i+1).toNat)*Q) (hQ:0<=Q):joinE [p0,p1,p2,p3,p4,p5]=q+c*2^(8*i.toNat):=by
 have hsl:=selW (by omega) hs
 have hpr:(0:Int)<2^(8*r.toNat):=Int.pow_pos (by decide)
 have e8:(2:Int)^(8*r.toNat+8)=2^(8*r.toNat)*256:=by rw [Int.pow_add];rfl
 have e1:q/2^(64*k.toNat)=2^(8*r.toNat+8)*Q:=by
  rw [hd,show 8*(i+1).toNat=64*k.toNat+(8*r.toNat+8) by omega,Int.pow_add,Int.mul_assoc]
  exact Int.mul_ediv_cancel_left _ (Int.ne_of_gt (Int.pow_pos (by decide)))
 have e2:(18446744073709551616:Int)=2^(8*r.toNat+8)*2^(56-8*r.toNat):=by
  rw [<- Int.pow_add,show 8*r.toNat+8+(56-8*r.toNat)=64 by omega,p64']
 have e3:s=2^(8*r.toNat+8)*(Q%2^(56-8*r.toNat)):=by
  rw [hsl,lim_div,e1,e2,Int.mul_emod_mul_of_pos _ _ (by rw [e8];omega)]
 have hp2:(0:Int)<2^(56-8*r.toNat):=Int.pow_pos (by decide)
 have hw0:=Int.emod_nonneg Q (show (2:Int)^(56-8*r.toNat)≠0 by omega)
 have hw1:=Int.emod_lt_of_pos Q hp2
 have h6:2^(8*r.toNat+8)*(Q%2^(56-8*r.toNat)+1)<=2^(8*r.toNat+8)*2^(56-8*r.toNat):=Int.mul_le_mul_of_nonneg_left (by omega) (by rw [e8];omega)
 rw [<- e2,Int.mul_add,<- e3,Int.mul_one,e8] at h6
 have hcb:c*2^(8*r.toNat)<=255*2^(8*r.toNat):=Int.mul_le_mul_of_nonneg_right hc.2 (by omega)
 have hs0:0<=s:=by rw [hsl];exact (lim_lt q _).1
 have hc0:0<=c*2^(8*r.toNat):=Int.mul_nonneg hc.1 (by omega)
 have hm':m.toNat=8*r.toNat:=by omega
 have hsh':=shl_sm hc.1 (by omega) hsh (by rw [hm'];omega)
 rw [hm'] at hsh'
 have hvs:v=s+c*2^(8*r.toNat):=by
  rw [hsh'] at hv
  refine or_dis (k:=8*r.toNat+8) (q:=Q%2^(56-8*r.toNat)) hv (by rw [Int.natCast_pow,e3,Int.mul_comm];rfl) hw0 ⟨hc0,?_⟩ (by omega)
  rw [Int.natCast_pow]
  show _<(2:Int)^(8*r.toNat+8)
  rw [e8];omega
 have:=put_joinW (d:=c*2^(8*r.toNat)) hq (by omega) (hvs.trans (by rw [hsl])) h0 h1 h2 h3 h4 h5
 rw [this,Int.mul_assoc,<- Int.pow_add,show 8*r.toNat+64*k.toNat=8*i.toNat by omega]
theorem or_cm (a b:Int):binE .or .u64 a b=binE .or .u64 b a:=by simp only [binE,BitVec.or_comm]
theorem put_up {q i k r s sh v p0 p1 p2 p3 p4 p5:Int} (hq:0<=q/\q<N384) (hi:0<=i/\i<384) (hk:k=i/64) (hr:r=i%64)
  (hs:s=([lim q 0,lim q 1,lim q 2,lim q 3,lim q 4,lim q 5]:List Int).getD k.toNat 0) (hsh:sh=binE .shl .u64 1 r) (hv:v=binE .or .u64 s sh)
  (h0:p0=if k=((0:Nat):Int) then v else lim q 0) (h1:p1=if k=((1:Nat):Int) then v else lim q 1) (h2:p2=if k=((2:Nat):Int) then v else lim q 2) (h3:p3=if k=((3:Nat):Int) then v else lim q 3) (h4:p4=if k=((4:Nat):Int) then v else lim q 4) (h5:p5=if k=((5:Nat):Int) then v else lim q 5)
  (hd:q<2^i.toNat):joinE [p0,p1,p2,p3,p4,p5]=q+2^i.toNat:=by
 have hsl:=selW (by omega) hs
 have hsh':=shl_one (by omega) hsh
 have hpr:(0:Int)<2^r.toNat:=Int.pow_pos (by decide)
 have hlt:q/2^(64*k.toNat)<2^r.toNat:=by
  refine Int.ediv_lt_of_lt_mul (Int.pow_pos (by decide)) ?_
  rw [<- Int.pow_add,show r.toNat+64*k.toNat=i.toNat by omega];exact hd
 have h64:(2:Int)^r.toNat*2<=18446744073709551616:=by
  rw [<- p64',<- Int.pow_succ]
  rcases Nat.lt_or_eq_of_le (show r.toNat+1<=64 by omega) with h | h
  ·exact Int.le_of_lt (Int.pow_lt_pow_of_lt (by decide) h)
  ·rw [show r.toNat.succ=64 from h];exact Int.le_refl _
 have hs0:0<=q/2^(64*k.toNat):=Int.ediv_nonneg hq.1 (Int.pow_nonneg (by decide))
 have hs1:s<2^r.toNat:=by rw [hsl,lim_div,Int.emod_eq_of_lt hs0 (by omega)];exact hlt
 have hs2:0<=s:=by rw [hsl];exact (lim_lt q _).1
 have hvs:v=s+2^r.toNat:=by
  rw [hsh',or_cm] at hv
  rw [or_dis (k:=r.toNat) (q:=1) hv (by rw [Int.natCast_pow,Int.one_mul];rfl) (by decide) ⟨hs2,by rw [Int.natCast_pow];exact hs1⟩ (by omega),Int.add_comm]
 rw [put_joinW (d:=2^r.toNat) hq (by omega) (hvs.trans (by rw [hsl])) h0 h1 h2 h3 h4 h5,<- Int.pow_add,show r.toNat+64*k.toNat=i.toNat by omega]
def kWBytes (te:TypeId) (f:FuncId):K:={fn:=f,ext:=false,ins:=[iN],outs:=[.lst te (.int .u8)],pre:=fun _=>True,sem:=fun | [a]=>[enc (bytesV a)] | _=>[] }
noncomputable def kWRead (f:FuncId):K:={fn:=f,ext:=false,ins:=[.lst (.int .u8)],outs:=[oN,oI],pre:=fun _=>True,sem:=fun | [l]=>if (dec l).length<=48 then [readV (dec l),0] else [0,3] | _=>[] }
theorem set_mid (l:List Int) (i n:Nat) (hl:l.length=i+(n+1)):(l.take i++List.replicate (n+1) 0).set i (l.getD i 0)=l.take (i+1)++List.replicate n 0:=by
 have h1:(l.take i).length=i:=by rw [List.length_take];omega
 rw [List.set_append_right _ _ (by omega),h1,Nat.sub_self,List.replicate_succ,List.set_cons_zero,List.take_succ_eq_append_getElem (by omega),List.append_assoc,List.getD_eq_getElem?_getD,List.getElem?_eq_getElem (by omega)];rfl
theorem bytesV_at (a:Int) {i:Int} (h:0<=i/\i<48):(bytesV a).getD i.toNat 0=byteAt a (47-i).toNat:=by
 rw [List.getD_eq_getElem?_getD,List.getElem?_eq_getElem (by rw [bytesV_len];omega),Option.getD_some,bytesV_get a (by omega)]
 congr 1;omega
def tWBytes:Tree:=(.lett 1 .bit (.cmp .leq (.lit 0) (.lit 48))
(.lett 2 .bit (.cmp .lss (.lit 48) (.lit 4294967296))
(.nz (.var 1)
(.nz (.var 2)
(.lett 3 (.lst (.int .u8)) (.lrep (.lit 48) (.lit 0))
(.lett 4 (.int .i64) (.llen (.var 3))
(.loop [.lit 0,.var 3] [(.int .i64),(.lst (.int .u8))] 5
(.lett 7 .bit (.cmp .lss (.var 5) (.var 4))
(.split 7
(.lett 8 (.int .i64) (.bin .sub .i64 (.lit 47) (.var 5))
(.lett 9 (.int .i64) (.bin .quo .i64 (.var 8) (.lit 8))
(.lett 10 .bit (.cmp .leq (.lit 0) (.var 9))
(.lett 11 .bit (.cmp .lss (.var 9) (.lit 6))
(.nz (.var 10)
(.nz (.var 11)
(.lett 12 (.int .u64) (.sel (.var 9) [.limb 0 0,.limb 0 1,.limb 0 2,.limb 0 3,.limb 0 4,.limb 0 5])
(.lett 13 (.int .i64) (.bin .rem .i64 (.var 8) (.lit 8))
(.lett 14 (.int .i64) (.bin .mul .i64 (.lit 8) (.var 13))
(.lett 15 .bit (.cmp .leq (.lit 0) (.var 14))
(.lett 16 (.int .u64) (.bin .shr .u64 (.var 12) (.var 14))
(.nz (.var 15)
(.lett 17 (.int .u8) (.conv .u8 (.var 16))
(.lett 18 (.int .i64) (.llen (.var 6))
(.lett 19 .bit (.cmp .leq (.lit 0) (.var 5))
(.lett 20 .bit (.cmp .lss (.var 5) (.var 18))
(.nz (.var 19)
(.nz (.var 20)
(.lett 21 (.lst (.int .u8)) (.lput (.var 6) (.var 5) (.var 17))
(.lett 22 (.int .i64) (.bin .add .i64 (.var 5) (.lit 1))
(.back 0 [.var 22,.var 21])))))))))))))))))))))
(.ret [.var 6]))))))))))
theorem law_wBytes (te:TypeId) (f:FuncId) (e:Nat->Int) (hk:kkHas [.num] [e 0]):tWBytes.says [] ⟨fun ys=>ys=(kWBytes te f).sem [e 0],[]⟩ e:=by
 have h0:0<=e 0:=hk.1.1
 intro a1 _ a2 _
 refine ⟨bit_nz a1 (show (0:Int)<=48 by decide),lt_nz a2 (show (48:Int)<4294967296 by decide),fun a3 _ a4 _=>?_⟩
 have d3:dec (e 3)=List.replicate 48 0:=by rw [show e 3=enc (List.replicate 48 0) from a3,dec_enc]
 have v4:e 4=48:=by rw [show e 4=((dec (e 3)).length:Int) from a4,d3];rfl
 refine ⟨fun | [i,q]=>(0<=i/\i<=48)/\q=enc ((bytesV (e 0)).take i.toNat++List.replicate (48-i.toNat) 0) | _=>False,fun | [i,_]=>(48-i).toNat | _=>0,⟨⟨Int.le_refl _,(show (0:Int)<=48 by decide)⟩,a3⟩,fun e' he hkk hI=>?_⟩
 obtain ⟨⟨i0,i1⟩,q6⟩:(0<=e' 5/\e' 5<=48)/\e' 6=enc ((bytesV (e 0)).take (e' 5).toNat++List.replicate (48-(e' 5).toNat) 0):=hI
 rw [<- he 0 (by decide)] at q6 h0 ⊢
 have d6:=(congrArg dec q6).trans (dec_enc _)
 have v4:=(he 4 (by decide)).trans v4
 clear he hkk a1 a2 a3 a4 d3
 intro a7 _
 have b7:=c_lt a7
 simp only [ev_var] at b7
 refine ⟨fun h=>?_,fun h=>?_⟩
 ·have c7:e' 5<48:=by have:=b_yes b7 h;omega
  intro a8 _ a9 _ a10 _ a11 _
  have v8:=sub_ (a:=47) (b:=e' 5) a8 (by omega)
  have v9:=quo_ (i:=e' 8) 8 (by decide) (by omega) a9
  refine ⟨bit_nz a10 (by show 0<=e' 9;omega),lt_nz a11 (by show e' 9<6;omega),fun a12 _ a13 _ a14 _ a15 _ a16 _=>?_⟩
  have v13:=rem_ (i:=e' 8) 8 (by omega) a13
  have v14:=mul8 (r:=e' 13) (by omega) a14
  refine ⟨bit_nz a15 (by show 0<=e' 14;omega),fun a17 _ a18 _ a19 _ a20 _=>?_⟩
  have v17:=byte_sel h0 (k:=e' 8) (by omega) v9 v13 v14 a12 a16 a17
  have hlen:(dec (e' 6)).length=48:=by rw [d6,List.length_append,List.length_take,List.length_replicate,bytesV_len];omega
  have v18:e' 18=48:=by rw [show e' 18=((dec (e' 6)).length:Int) from a18,hlen];rfl
  refine ⟨bit_nz a19 i0,lt_nz a20 (by show e' 5<e' 18;omega),fun a21 _ a22 _=>?_⟩
  have v22:=add_ (a:=e' 5) (b:=1) a22 (by omega)
  show ((0<=e' 22/\e' 22<=48)/\e' 21=enc ((bytesV (e' 0)).take (e' 22).toNat++List.replicate (48-(e' 22).toNat) 0))/\(48-e' 22).toNat<(48-e' 5).toNat
  refine ⟨⟨by omega,?_⟩,by omega⟩
  rw [show e' 21=enc ((dec (e' 6)).set (e' 5).toNat (e' 17)) from a21,d6,v17,v8,<- bytesV_at _ ⟨i0,c7⟩,show 48-(e' 5).toNat=48-(e' 22).toNat+1 by omega,set_mid _ _ _ (by rw [bytesV_len];omega),show (e' 5).toNat+1=(e' 22).toNat by omega]
 ·have c7:e' 5=48:=by have:=b_no b7 h;omega
  show [e' 6]=[enc (bytesV (e' 0))]
  rw [q6,c7,show (48:Int).toNat=48 from rfl,Nat.sub_self,List.replicate_zero,List.append_nil,List.take_of_length_le (by rw [bytesV_len];exact Nat.le_refl _)]
def tRBytes:Tree:=(.loop [.lit 47,.lit 0] [(.int .i64),(.lst (.int .u8))] 1
(.lett 3 .bit (.cmp .geq (.var 1) (.lit 0))
(.split 3
(.lett 4 (.int .i64) (.bin .quo .i64 (.var 1) (.lit 8))
(.lett 5 .bit (.cmp .leq (.lit 0) (.var 4))
(.lett 6 .bit (.cmp .lss (.var 4) (.lit 6))
(.nz (.var 5)
(.nz (.var 6)
(.lett 7 (.int .u64) (.sel (.var 4) [.limb 0 0,.limb 0 1,.limb 0 2,.limb 0 3,.limb 0 4,.limb 0 5])
(.lett 8 (.int .i64) (.bin .rem .i64 (.var 1) (.lit 8))
(.lett 9 (.int .i64) (.bin .mul .i64 (.lit 8) (.var 8))
(.lett 10 .bit (.cmp .leq (.lit 0) (.var 9))
(.lett 11 (.int .u64) (.bin .shr .u64 (.var 7) (.var 9))
(.nz (.var 10)
(.lett 12 (.int .u8) (.conv .u8 (.var 11))
(.lett 13 (.int .i64) (.llen (.var 2))
(.lett 14 .bit (.cmp .lss (.var 13) (.lit 4294967296))
(.nz (.var 14)
(.lett 15 (.lst (.int .u8)) (.lapp (.var 2) [.var 12])
(.lett 16 (.int .i64) (.bin .sub .i64 (.var 1) (.lit 1))
(.back 0 [.var 16,.var 15]))))))))))))))))))
(.ret [.var 2]))))
theorem law_rBytes (te:TypeId) (f:FuncId) (e:Nat->Int) (hk:kkHas [.num] [e 0]):tRBytes.says [] ⟨fun ys=>ys=(kWBytes te f).sem [e 0],[]⟩ e:=by
 have h0:0<=e 0:=hk.1.1
 refine ⟨fun | [i,q]=>(-1<=i/\i<=47)/\q=enc ((bytesV (e 0)).take (47-i).toNat) | _=>False,fun | [i,_]=>(i+1).toNat | _=>0,⟨⟨(show (-1:Int)<=47 by decide),Int.le_refl _⟩,(show (0:Int)=enc [] from rfl)⟩,fun e' he hkk hI=>?_⟩
 obtain ⟨⟨i0,i1⟩,q2⟩:(-1<=e' 1/\e' 1<=47)/\e' 2=enc ((bytesV (e 0)).take (47-e' 1).toNat):=hI
 rw [<- he 0 (by decide)] at q2 h0 ⊢
 have d2:=(congrArg dec q2).trans (dec_enc _)
 clear he hkk
 intro a3 _
 have b3:=c_ge a3
 simp only [ev_var,ev_lit] at b3
 refine ⟨fun h=>?_,fun h=>?_⟩
 ·have c3:0<=e' 1:=b_yes b3 h
  intro a4 _ a5 _ a6 _
  have v4:=quo_ (i:=e' 1) 8 (by decide) (by omega) a4
  refine ⟨bit_nz a5 (by show 0<=e' 4;omega),lt_nz a6 (by show e' 4<6;omega),fun a7 _ a8 _ a9 _ a10 _ a11 _=>?_⟩
  have v8:=rem_ (i:=e' 1) 8 (by omega) a8
  have v9:=mul8 (r:=e' 8) (by omega) a9
  refine ⟨bit_nz a10 (by show 0<=e' 9;omega),fun a12 _ a13 _ a14 _=>?_⟩
  have v12:=byte_sel h0 (k:=e' 1) (by omega) v4 v8 v9 a7 a11 a12
  have v13:e' 13<=48:=by
   rw [show e' 13=((dec (e' 2)).length:Int) from a13,d2,List.length_take,bytesV_len];omega
  refine ⟨lt_nz a14 (by show e' 13<4294967296;omega),fun a15 _ a16 _=>?_⟩
  have v16:=sub_ (a:=e' 1) (b:=1) a16 (by omega)
  show ((-1<=e' 16/\e' 16<=47)/\e' 15=enc ((bytesV (e' 0)).take (47-e' 16).toNat))/\(e' 16+1).toNat<(e' 1+1).toNat
  refine ⟨⟨by omega,?_⟩,by omega⟩
  rw [show e' 15=enc (dec (e' 2)++[e' 12]) from a15,d2,v12,show (47-e' 16).toNat=(47-e' 1).toNat+1 by omega,List.take_succ_eq_append_getElem (by rw [bytesV_len];omega),bytesV_get _ (by omega),show 47-(47-e' 1).toNat=(e' 1).toNat by omega]
 ·have c3:e' 1=-1:=by have:=b_no b3 h;omega
  show [e' 2]=[enc (bytesV (e' 0))]
  rw [q2,c3,List.take_of_length_le (by rw [bytesV_len];decide)]
theorem readV_app (l:List Int) (c:Int):readV (l++[c])=256*readV l+c:=by simp [readV]
theorem readV_take {l:List Int} {i:Nat} (h:i<l.length):readV (l.take (i+1))=256*readV (l.take i)+l.getD i 0:=by
 rw [List.take_succ_eq_append_getElem h,readV_app,List.getD_eq_getElem?_getD,List.getElem?_eq_getElem h];rfl
theorem readV_rng {l:List Int} (h:∀ z∈l,(0:Int)<=z/\z<=255):0<=readV l/\readV l<2^(8*l.length):=by
 suffices hs:∀ n,n<=l.length->0<=readV (l.take n)/\readV (l.take n)<2^(8*n) by
  have:=hs l.length (Nat.le_refl _)
  rwa [List.take_of_length_le (Nat.le_refl _)] at this
 intro n
 induction n with
 | zero=>intro _;exact ⟨Int.le_refl _,(show (0:Int)<1 by decide)⟩
 | succ n ih =>
  intro hn
  obtain ⟨h1,h2⟩:=ih (by omega)
  have hz:=h _ (List.getElem_mem (show n<l.length by omega))
  rw [readV_take (by omega),List.getD_eq_getElem?_getD,List.getElem?_eq_getElem (by omega),Option.getD_some,show 8*(n+1)=8*n+8 by omega,Int.pow_add,show (2:Int)^8=256 from rfl]
  omega
theorem b_has {l:List Int} (h:(LK.int .u8).hasL l) {i:Nat} (hi:i<l.length):0<=l.getD i 0/\l.getD i 0<=255:=by
 rw [List.getD_eq_getElem?_getD,List.getElem?_eq_getElem hi]
 exact h.2 _ (List.getElem_mem hi)
theorem read_step {l:List Int} {i:Nat} {o o':Int} (hl:(LK.int .u8).hasL l) (hi:i<l.length) (ho:o=readV (l.take i)*2^(8*(l.length-i))) (ho':o'=o+l.getD i 0*2^(8*(l.length-1-i))):o'=readV (l.take (i+1))*2^(8*(l.length-(i+1))):=by
 rw [ho',ho,readV_take hi,show 8*(l.length-i)=8*(l.length-1-i)+8 by omega,show 8*(l.length-(i+1))=8*(l.length-1-i) by omega,Int.pow_add,show (2:Int)^8=256 from rfl]
 generalize (2:Int)^(8*(l.length-1-i))=z
 grind
theorem read_div {l:List Int} {i:Nat} {o:Int} (hi:i<l.length) (ho:o=readV (l.take i)*2^(8*(l.length-i))) {k:Int} (hk:k=l.length-1-i):o=2^(8*(k+1).toNat)*readV (l.take i):=by
 rw [ho,Int.mul_comm,show l.length-i=(k+1).toNat by omega]
theorem take_all {l:List Int} (h:(LK.int .u8).hasL l) (n:Nat):0<=readV (l.take n):=(readV_rng fun z hz=>h.2 z (List.mem_of_mem_take hz)).1
def tWRead:Tree:=(.lett 1 (.int .i64) (.llen (.var 0))
(.lett 2 .bit (.cmp .gtr (.var 1) (.lit 48))
(.split 2
(.ret [.lit 0,.lit 3])
(.lett 3 (.int .i64) (.llen (.var 0))
(.loop [.lit 0,.lit 0] [(.int .i64),.num] 4
(.lett 6 .bit (.cmp .lss (.var 4) (.var 3))
(.split 6
 (.lett 7 (.int .i64) (.llen (.var 0))
 (.lett 8 .bit (.cmp .leq (.lit 0) (.var 4))
 (.lett 9 .bit (.cmp .lss (.var 4) (.var 7))
 (.nz (.var 8)
 (.nz (.var 9)
 (.lett 10 (.int .u8) (.lget (.var 0) (.var 4))
 (.lett 11 (.int .i64) (.llen (.var 0))
 (.lett 12 (.int .i64) (.bin .sub .i64 (.var 11) (.lit 1))
 (.lett 13 (.int .i64) (.bin .sub .i64 (.var 12) (.var 4))
 (.lett 62 (.int .i64) (.bin .quo .i64 (.var 13) (.lit 8))
 (.lett 110 .bit (.cmp .leq (.lit 0) (.var 62))
 (.lett 111 .bit (.cmp .lss (.var 62) (.lit 6))
 (.nz (.var 110)
 (.nz (.var 111)
 (.lett 158 (.int .u64) (.sel (.var 62) [.limb 5 0,.limb 5 1,.limb 5 2,.limb 5 3,.limb 5 4,.limb 5 5])
 (.lett 350 (.int .i64) (.bin .rem .i64 (.var 13) (.lit 8))
 (.lett 398 (.int .i64) (.bin .mul .i64 (.lit 8) (.var 350))
 (.lett 446 .bit (.cmp .leq (.lit 0) (.var 398))
 (.lett 447 (.int .u64) (.bin .shl .u64 (.var 10) (.var 398))
 (.nz (.var 446)
 (.lett 494 (.int .u64) (.bin .or .u64 (.var 158) (.var 447))
 (.lett 542 .bit (.cmp .leq (.lit 0) (.var 62))
 (.lett 543 .bit (.cmp .lss (.var 62) (.lit 6))
 (.nz (.var 542)
 (.nz (.var 543)
 (.lett 590 (.int .u64) (.put (.var 62) 0 (.var 494) (.limb 5 0))
 (.lett 591 (.int .u64) (.put (.var 62) 1 (.var 494) (.limb 5 1))
 (.lett 592 (.int .u64) (.put (.var 62) 2 (.var 494) (.limb 5 2))
 (.lett 593 (.int .u64) (.put (.var 62) 3 (.var 494) (.limb 5 3))
 (.lett 594 (.int .u64) (.put (.var 62) 4 (.var 494) (.limb 5 4))
 (.lett 595 (.int .u64) (.put (.var 62) 5 (.var 494) (.limb 5 5))
 (.lett 638 (.int .i64) (.bin .add .i64 (.var 4) (.lit 1))
 (.lett 639 .num (.join [.var 590,.var 591,.var 592,.var 593,.var 594,.var 595])
 (.back 0 [.var 638,.var 639]))))))))))))))))))))))))))))))))))
 (.ret [.var 5,.lit 0]))))))))
theorem law_wRead (f:FuncId) (e:Nat->Int) (hk:kkHas [.lst (.int .u8)] [e 0]):tWRead.says [] ⟨fun ys=>ys=(kWRead f).sem [e 0],[]⟩ e:=by
 obtain ⟨l,d0⟩:∃ l,dec (e 0)=l:=⟨_,rfl⟩
 have hl:(LK.int .u8).hasL l:=by rw [<- d0];exact hk.1
 show tWRead.says _ ⟨fun ys=>ys=if (dec (e 0)).length<=48 then [readV (dec (e 0)),0] else [0,3],[]⟩ e
 rw [d0]
 clear hk
 intro a1 _ a2 _
 have v1:e 1=(l.length:Int):=by rw [<- d0];exact a1
 have b2:=c_gt a2
 simp only [ev_var,ev_lit] at b2
 refine ⟨fun h=>?_,fun h=>?_⟩
 ·have:=b_yes b2 h
  rw [if_neg (by omega)];rfl
 have hn:l.length<=48:=by have:=b_no b2 h;omega
 rw [if_pos hn]
 intro a3 _
 have v3:e 3=(l.length:Int):=by rw [<- d0];exact a3
 refine ⟨fun | [i,o]=>(0<=i/\i<=l.length)/\o=readV (l.take i.toNat)*2^(8*(l.length-i.toNat)) | _=>False,fun | [i,_]=>(l.length-i).toNat | _=>0,⟨⟨Int.le_refl _,(show (0:Int)<=l.length by omega)⟩,(show (0:Int)=0*_ by rw [Int.zero_mul])⟩,fun e' he hkk hI=>?_⟩
 obtain ⟨⟨i0,i1⟩,q5⟩:(0<=e' 4/\e' 4<=l.length)/\e' 5=readV (l.take (e' 4).toNat)*2^(8*(l.length-(e' 4).toNat)):=hI
 have k5:0<=e' 5/\e' 5<N384:=hkk.2.1
 have d0:=(congrArg dec (he 0 (by decide))).trans d0
 have v3:=(he 3 (by decide)).trans v3
 clear he hkk a1 a2 a3 v1 b2 h
 intro a6 _
 have b6:=c_lt a6
 simp only [ev_var] at b6
 refine ⟨fun h=>?_,fun h=>?_⟩
 ·have c6:e' 4<l.length:=by have:=b_yes b6 h;omega
  intro a7 _ a8 _ a9 _
  have v7:e' 7=(l.length:Int):=by rw [<- d0];exact a7
  refine ⟨bit_nz a8 i0,lt_nz a9 (by show e' 4<e' 7;omega),fun a10 _ a11 _ a12 _ a13 _ a62 _ a110 _ a111 _=>?_⟩
  have v10:e' 10=l.getD (e' 4).toNat 0:=by rw [<- d0];exact a10
  have v11:e' 11=(l.length:Int):=by rw [<- d0];exact a11
  have v12:=sub_ (a:=e' 11) (b:=1) a12 (by omega)
  have v13:=sub_ (a:=e' 12) (b:=e' 4) a13 (by omega)
  have v62:=quo_ (i:=e' 13) 8 (by decide) (by omega) a62
  refine ⟨bit_nz a110 (by show 0<=e' 62;omega),lt_nz a111 (by show e' 62<6;omega),fun a158 _ a350 _ a398 _ a446 _ a447 _=>?_⟩
  have v350:=rem_ (i:=e' 13) 8 (by omega) a350
  have v398:=mul8 (r:=e' 350) (by omega) a398
  refine ⟨bit_nz a446 (by show 0<=e' 398;omega),fun a494 _ a542 _ a543 _=>⟨bit_nz a542 (by show 0<=e' 62;omega),lt_nz a543 (by show e' 62<6;omega),fun a590 _ a591 _ a592 _ a593 _ a594 _ a595 _ a638 _ a639 _=>?_⟩⟩
  have hc:=b_has hl (i:=(e' 4).toNat) (by omega)
  rw [<- v10] at hc
  have hp:=put_byte k5 (i:=e' 13) (by omega) v62 v350 v398 hc a158 a447 a494 a590 a591 a592 a593 a594 a595 (read_div (by omega) q5 (by omega)) (take_all hl _)
  have v638:=add_ (a:=e' 4) (b:=1) a638 (by omega)
  show ((0<=e' 638/\e' 638<=l.length)/\e' 639=readV (l.take (e' 638).toNat)*2^(8*(l.length-(e' 638).toNat)))/\(l.length-e' 638).toNat<(l.length-e' 4).toNat
  refine ⟨⟨by omega,?_⟩,by omega⟩
  rw [show (e' 638).toNat=(e' 4).toNat+1 by omega]
  refine read_step hl (by omega) q5 ?_
  rw [<- v10,show l.length-1-(e' 4).toNat=(e' 13).toNat by omega]
  exact (show e' 639=joinE [e' 590,e' 591,e' 592,e' 593,e' 594,e' 595] from a639).trans hp
 ·have c6:e' 4=l.length:=by have:=b_no b6 h;omega
  show [e' 5,0]=[readV l,0]
  rw [q5,c6,Int.toNat_natCast,List.take_of_length_le (Nat.le_refl _),Nat.sub_self,Nat.mul_zero,Int.pow_zero,Int.mul_one]
def tRRead:Tree:=(.lett 1 (.int .i64) (.llen (.var 0))
(.lett 2 .bit (.cmp .gtr (.var 1) (.lit 48))
(.split 2
(.ret [.lit 0,.lit 3])
(.loop [.lit 0,.lit 0] [(.int .i64),.num] 3
(.lett 5 (.int .i64) (.llen (.var 0))
(.lett 6 .bit (.cmp .lss (.var 3) (.var 5))
(.split 6
 (.lett 7 (.int .i64) (.llen (.var 0))
 (.lett 8 (.int .i64) (.bin .sub .i64 (.var 7) (.lit 1))
 (.lett 9 (.int .i64) (.bin .sub .i64 (.var 8) (.var 3))
 (.lett 58 (.int .i64) (.bin .quo .i64 (.var 9) (.lit 8))
 (.lett 154 (.int .i64) (.bin .quo .i64 (.var 9) (.lit 8))
 (.lett 202 .bit (.cmp .leq (.lit 0) (.var 154))
 (.lett 203 .bit (.cmp .lss (.var 154) (.lit 6))
 (.nz (.var 202)
 (.nz (.var 203)
 (.lett 250 (.int .u64) (.sel (.var 154) [.limb 4 0,.limb 4 1,.limb 4 2,.limb 4 3,.limb 4 4,.limb 4 5])
 (.lett 394 (.int .i64) (.llen (.var 0))
 (.lett 395 .bit (.cmp .leq (.lit 0) (.var 3))
 (.lett 396 .bit (.cmp .lss (.var 3) (.var 394))
 (.nz (.var 395)
 (.nz (.var 396)
 (.lett 442 (.int .u8) (.lget (.var 0) (.var 3))
 (.lett 586 (.int .i64) (.bin .rem .i64 (.var 9) (.lit 8))
 (.lett 634 (.int .i64) (.bin .mul .i64 (.lit 8) (.var 586))
 (.lett 682 .bit (.cmp .leq (.lit 0) (.var 634))
 (.lett 683 (.int .u64) (.bin .shl .u64 (.var 442) (.var 634))
 (.nz (.var 682)
 (.lett 730 (.int .u64) (.bin .or .u64 (.var 250) (.var 683))
 (.lett 778 .bit (.cmp .leq (.lit 0) (.var 58))
 (.lett 779 .bit (.cmp .lss (.var 58) (.lit 6))
 (.nz (.var 778)
 (.nz (.var 779)
 (.lett 826 (.int .u64) (.put (.var 58) 0 (.var 730) (.limb 4 0))
 (.lett 827 (.int .u64) (.put (.var 58) 1 (.var 730) (.limb 4 1))
 (.lett 828 (.int .u64) (.put (.var 58) 2 (.var 730) (.limb 4 2))
 (.lett 829 (.int .u64) (.put (.var 58) 3 (.var 730) (.limb 4 3))
 (.lett 830 (.int .u64) (.put (.var 58) 4 (.var 730) (.limb 4 4))
 (.lett 831 (.int .u64) (.put (.var 58) 5 (.var 730) (.limb 4 5))
 (.lett 874 (.int .i64) (.bin .add .i64 (.var 3) (.lit 1))
 (.lett 875 .num (.join [.var 826,.var 827,.var 828,.var 829,.var 830,.var 831])
 (.back 0 [.var 874,.var 875])))))))))))))))))))))))))))))))))))
 (.ret [.var 4,.lit 0]))))))))
theorem law_rRead (f:FuncId) (e:Nat->Int) (hk:kkHas [.lst (.int .u8)] [e 0]):tRRead.says [] ⟨fun ys=>ys=(kWRead f).sem [e 0],[]⟩ e:=by
 obtain ⟨l,d0⟩:∃ l,dec (e 0)=l:=⟨_,rfl⟩
 have hl:(LK.int .u8).hasL l:=by rw [<- d0];exact hk.1
 show tRRead.says _ ⟨fun ys=>ys=if (dec (e 0)).length<=48 then [readV (dec (e 0)),0] else [0,3],[]⟩ e
 rw [d0]
 clear hk
 intro a1 _ a2 _
 have v1:e 1=(l.length:Int):=by rw [<- d0];exact a1
 have b2:=c_gt a2
 simp only [ev_var,ev_lit] at b2
 refine ⟨fun h=>?_,fun h=>?_⟩
 ·have:=b_yes b2 h
  rw [if_neg (by omega)];rfl
 have hn:l.length<=48:=by have:=b_no b2 h;omega
 rw [if_pos hn]
 refine ⟨fun | [i,o]=>(0<=i/\i<=l.length)/\o=readV (l.take i.toNat)*2^(8*(l.length-i.toNat)) | _=>False,fun | [i,_]=>(l.length-i).toNat | _=>0,⟨⟨Int.le_refl _,(show (0:Int)<=l.length by omega)⟩,(show (0:Int)=0*_ by rw [Int.zero_mul])⟩,fun e' he hkk hI=>?_⟩
 obtain ⟨⟨i0,i1⟩,q5⟩:(0<=e' 3/\e' 3<=l.length)/\e' 4=readV (l.take (e' 3).toNat)*2^(8*(l.length-(e' 3).toNat)):=hI
 have k5:0<=e' 4/\e' 4<N384:=hkk.2.1
 have d0:=(congrArg dec (he 0 (by decide))).trans d0
 clear he hkk a1 a2 v1 b2 h
 intro a5 _ a6 _
 have v5:e' 5=(l.length:Int):=by rw [<- d0];exact a5
 have b6:=c_lt a6
 simp only [ev_var] at b6
 refine ⟨fun h=>?_,fun h=>?_⟩
 ·have c6:e' 3<l.length:=by have:=b_yes b6 h;omega
  intro a7 _ a8 _ a9 _ a58 _ a154 _ a202 _ a203 _
  have v7:e' 7=(l.length:Int):=by rw [<- d0];exact a7
  have v8:=sub_ (a:=e' 7) (b:=1) a8 (by omega)
  have v9:=sub_ (a:=e' 8) (b:=e' 3) a9 (by omega)
  have v58:=quo_ (i:=e' 9) 8 (by decide) (by omega) a58
  have v154:=quo_ (i:=e' 9) 8 (by decide) (by omega) a154
  refine ⟨bit_nz a202 (by show 0<=e' 154;omega),lt_nz a203 (by show e' 154<6;omega),fun a250 _ a394 _ a395 _ a396 _=>?_⟩
  have v394:e' 394=(l.length:Int):=by rw [<- d0];exact a394
  refine ⟨bit_nz a395 i0,lt_nz a396 (by show e' 3<e' 394;omega),fun a442 _ a586 _ a634 _ a682 _ a683 _=>?_⟩
  have v442:e' 442=l.getD (e' 3).toNat 0:=by rw [<- d0];exact a442
  have v586:=rem_ (i:=e' 9) 8 (by omega) a586
  have v634:=mul8 (r:=e' 586) (by omega) a634
  refine ⟨bit_nz a682 (by show 0<=e' 634;omega),fun a730 _ a778 _ a779 _=>⟨bit_nz a778 (by show 0<=e' 58;omega),lt_nz a779 (by show e' 58<6;omega),fun a826 _ a827 _ a828 _ a829 _ a830 _ a831 _ a874 _ a875 _=>?_⟩⟩
  have hc:=b_has hl (i:=(e' 3).toNat) (by omega)
  rw [<- v442] at hc
  have h58:e' 58=e' 154:=v58.trans v154.symm
  have hp:=put_byte k5 (i:=e' 9) (by omega) v58 v586 v634 hc (by rw [h58];exact a250) a683 a730 a826 a827 a828 a829 a830 a831 (read_div (by omega) q5 (by omega)) (take_all hl _)
  have v874:=add_ (a:=e' 3) (b:=1) a874 (by omega)
  show ((0<=e' 874/\e' 874<=l.length)/\e' 875=readV (l.take (e' 874).toNat)*2^(8*(l.length-(e' 874).toNat)))/\(l.length-e' 874).toNat<(l.length-e' 3).toNat
  refine ⟨⟨by omega,?_⟩,by omega⟩
  rw [show (e' 874).toNat=(e' 3).toNat+1 by omega]
  refine read_step hl (by omega) q5 ?_
  rw [<- v442,show l.length-1-(e' 3).toNat=(e' 9).toNat by omega]
  exact (show e' 875=joinE [e' 826,e' 827,e' 828,e' 829,e' 830,e' 831] from a875).trans hp
 ·have c6:e' 3=l.length:=by have:=b_no b6 h;omega
  show [e' 4,0]=[readV l,0]
  rw [q5,c6,Int.toNat_natCast,List.take_of_length_le (Nat.le_refl _),Nat.sub_self,Nat.mul_zero,Int.pow_zero,Int.mul_one]
def kShR (s:Int) (f:FuncId):K:={fn:=f,ext:=false,ins:=[iN,.one (.cst (.int .i64 (.lit (-s))))],outs:=[oN],pre:=fun _=>True,sem:=fun | [a]=>[a/2^s.toNat] | _=>[] }
def tRShR (s:Int):Tree:=(.loop [.lit 0,.lit 0] [(.int .i64),.num] 1
(.lett 3 .bit (.cmp .lss (.var 1) (.lit 384))
(.split 3
(.lett 4 (.int .i64) (.bin .sub .i64 (.var 1) (.lit (-s)))
(.req 0 [.var 0,.var 4]
(.lett 5 (.int .i64) (.app 0 0 [.var 0,.var 4])
(.lett 6 .bit (.cmp .eql (.var 5) (.lit 1))
(.split 6
 (.lett 55 (.int .i64) (.bin .quo .i64 (.var 1) (.lit 64))
 (.lett 151 (.int .i64) (.bin .quo .i64 (.var 1) (.lit 64))
 (.lett 199 .bit (.cmp .leq (.lit 0) (.var 151))
 (.lett 200 .bit (.cmp .lss (.var 151) (.lit 6))
 (.nz (.var 199)
 (.nz (.var 200)
 (.lett 247 (.int .u64) (.sel (.var 151) [.limb 2 0,.limb 2 1,.limb 2 2,.limb 2 3,.limb 2 4,.limb 2 5])
 (.lett 343 (.int .i64) (.bin .rem .i64 (.var 1) (.lit 64))
 (.lett 391 .bit (.cmp .leq (.lit 0) (.var 343))
 (.lett 392 (.int .u64) (.bin .shl .u64 (.lit 1) (.var 343))
 (.nz (.var 391)
 (.lett 439 (.int .u64) (.bin .or .u64 (.var 247) (.var 392))
 (.lett 487 .bit (.cmp .leq (.lit 0) (.var 55))
 (.lett 488 .bit (.cmp .lss (.var 55) (.lit 6))
 (.nz (.var 487)
 (.nz (.var 488)
 (.lett 535 (.int .u64) (.put (.var 55) 0 (.var 439) (.limb 2 0))
 (.lett 536 (.int .u64) (.put (.var 55) 1 (.var 439) (.limb 2 1))
 (.lett 537 (.int .u64) (.put (.var 55) 2 (.var 439) (.limb 2 2))
 (.lett 538 (.int .u64) (.put (.var 55) 3 (.var 439) (.limb 2 3))
 (.lett 539 (.int .u64) (.put (.var 55) 4 (.var 439) (.limb 2 4))
 (.lett 540 (.int .u64) (.put (.var 55) 5 (.var 439) (.limb 2 5))
 (.lett 583 (.int .i64) (.bin .add .i64 (.var 1) (.lit 1))
 (.lett 584 .num (.join [.var 535,.var 536,.var 537,.var 538,.var 539,.var 540])
 (.back 0 [.var 583,.var 584])))))))))))))))))))))))))
 (.lett 7 (.int .i64) (.bin .add .i64 (.var 1) (.lit 1))
 (.back 0 [.var 7,.var 2])))))))
(.ret [.var 2]))))
theorem mod_step (x:Int) (n:Nat):x%2^(n+1)=x%2^n+x/2^n%2*2^n:=by
 have hp:(0:Int)<2^n:=Int.pow_pos (by decide)
 have h1:=Int.emod_add_mul_ediv x (2^n)
 have h2:=Int.emod_add_mul_ediv (x/2^n) 2
 have h3:=Int.emod_nonneg x (show (2:Int)^n≠0 by omega)
 have h4:=Int.emod_lt_of_pos x hp
 rw [Int.pow_succ]
 generalize (2:Int)^n=z at *
 refine md_eq (x/z/2) ?_ ?_ ?_
 ·grind
 ·have:0<=x/z%2*z:=Int.mul_nonneg (by omega) (by omega)
  omega
 ·have:x/z%2*z<=1*z:=Int.mul_le_mul_of_nonneg_right (by omega) (by omega)
  omega
theorem law_rShR (s:Int) (hs:s=1∨s=2) (f1 f:FuncId) (e:Nat->Int) (hk:kkHas [.num] [e 0]):(tRShR s).says [kBit f1] ⟨fun ys=>ys=(kShR s f).sem [e 0],[]⟩ e:=by
 have h0:0<=e 0/\e 0<N384:=hk.1
 obtain ⟨A,hA⟩:∃ A,A=e 0/2^s.toNat:=⟨_,rfl⟩
 show (tRShR s).says _ ⟨fun ys=>ys=[e 0/2^s.toNat],[]⟩ e
 rw [<- hA]
 refine ⟨fun | [i,o]=>(0<=i/\i<=384)/\o=A%2^i.toNat | _=>False,fun | [i,_]=>(384-i).toNat | _=>0,⟨⟨Int.le_refl _,(show (0:Int)<=384 by decide)⟩,(show (0:Int)=A%1 by rw [Int.emod_one])⟩,fun e' he hkk hI=>?_⟩
 obtain ⟨⟨i0,i1⟩,q2⟩:(0<=e' 1/\e' 1<=384)/\e' 2=A%2^(e' 1).toNat:=hI
 have k2:0<=e' 2/\e' 2<N384:=hkk.2.1
 rw [<- he 0 (by decide)] at hA h0
 clear he hkk hk
 have hA0:0<=A:=by rw [hA];exact Int.ediv_nonneg h0.1 (Int.pow_nonneg (by decide))
 have hA1:A<2^384:=by
  rw [hA,p384]
  exact Int.lt_of_le_of_lt (Int.ediv_le_self _ h0.1) h0.2
 intro a3 _
 have b3:=c_lt a3
 simp only [ev_var,ev_lit] at b3
 refine ⟨fun h=>?_,fun h=>?_⟩
 ·have c3:e' 1<384:=b_yes b3 h
  refine fun a4 _=>⟨trivial,fun a5 _ a6 _=>?_⟩
  have v4:=sub_ (a:=e' 1) (b:=-s) a4 (by omega)
  have v5:e' 5=A/2^(e' 1).toNat%2:=by
   rw [show e' 5=(if 0<=e' 4/\e' 4<384 then e' 0/2^(e' 4).toNat%2 else 0) from a5,hA,Int.ediv_ediv_of_nonneg (Int.pow_nonneg (by decide)),<- Int.pow_add,show s.toNat+(e' 1).toNat=(e' 4).toNat by omega]
   split
   ·rfl
   ·have:e' 0/2^(e' 4).toNat=0:=by
     refine Int.ediv_eq_zero_of_lt h0.1 (Int.lt_of_lt_of_le h0.2 ?_)
     rw [<- p384]
     rcases Nat.lt_or_eq_of_le (show 384<=(e' 4).toNat by omega) with h | h
     ·exact Int.le_of_lt (Int.pow_lt_pow_of_lt (by decide) h)
     ·rw [h];exact Int.le_refl _
    rw [this];rfl
  have hst:=mod_step A (e' 1).toNat
  rw [<- q2,<- v5] at hst
  have b6:=c_eq a6
  simp only [ev_var,ev_lit] at b6
  refine ⟨fun h=>?_,fun h=>?_⟩
  ·have c6:e' 5=1:=b_yes b6 h
   intro a55 _ a151 _ a199 _ a200 _
   have v55:=quo_ (i:=e' 1) 64 (by decide) (by omega) a55
   have v151:=quo_ (i:=e' 1) 64 (by decide) (by omega) a151
   refine ⟨bit_nz a199 (by show 0<=e' 151;omega),lt_nz a200 (by show e' 151<6;omega),fun a247 _ a343 _ a391 _=>?_⟩
   have v343:=rem_ (i:=e' 1) 64 (by omega) a343
   refine fun a392 _=>⟨bit_nz a391 (by show 0<=e' 343;omega),fun a439 _ a487 _ a488 _=>⟨bit_nz a487 (by show 0<=e' 55;omega),lt_nz a488 (by show e' 55<6;omega),fun a535 _ a536 _ a537 _ a538 _ a539 _ a540 _ a583 _ a584 _=>?_⟩⟩
   have h55:e' 55=e' 151:=v55.trans v151.symm
   have hp:=put_up k2 (i:=e' 1) (by omega) v55 v343 (by rw [h55];exact a247) a392 a439 a535 a536 a537 a538 a539 a540 (by rw [q2];exact Int.emod_lt_of_pos _ (Int.pow_pos (by decide)))
   have v583:=add_ (a:=e' 1) (b:=1) a583 (by omega)
   show ((0<=e' 583/\e' 583<=384)/\e' 584=A%2^(e' 583).toNat)/\(384-e' 583).toNat<(384-e' 1).toNat
   refine ⟨⟨by omega,?_⟩,by omega⟩
   rw [show (e' 583).toNat=(e' 1).toNat+1 by omega,hst,c6,Int.one_mul]
   exact (show e' 584=joinE [e' 535,e' 536,e' 537,e' 538,e' 539,e' 540] from a584).trans hp
  ·have c6:e' 5=0:=by have:=b_no b6 h;omega
   intro a7 _
   have v7:=add_ (a:=e' 1) (b:=1) a7 (by omega)
   show ((0<=e' 7/\e' 7<=384)/\e' 2=A%2^(e' 7).toNat)/\(384-e' 7).toNat<(384-e' 1).toNat
   refine ⟨⟨by omega,?_⟩,by omega⟩
   rw [show (e' 7).toNat=(e' 1).toNat+1 by omega,hst,c6,Int.zero_mul,Int.add_zero]
 ·have c3:e' 1=384:=by have:=b_no b3 h;omega
  show [e' 2]=[A]
  rw [q2,c3,show (384:Int).toNat=384 from rfl,Int.emod_eq_of_lt hA0 hA1]
noncomputable def kRBelow (f:FuncId):K:={fn:=f,ext:=false,ins:=[iN],outs:=[oB],pre:=fun _=>True,sem:=fun | [a]=>[bj (a<bP)] | _=>[] }
def tRBase:Tree:=(.ret [.lit 4002409555221667393417789825735904156556882819939007885332058136124031650490837864442687629129015664037894272559787])
theorem law_rBase (f:FuncId) (e:Nat->Int):tRBase.says [] ⟨fun ys=>ys=(kMBase f).sem [],[]⟩ e:=by
 show [_]=[bP]
 rfl
def tROrder:Tree:=(.ret [.lit 52435875175126190479447740508185965837690552500527637822603658699938581184513])
theorem law_rOrder (f:FuncId) (e:Nat->Int):tROrder.says [] ⟨fun ys=>ys=(kMOrder f).sem [],[]⟩ e:=by
 show [_]=[rGreat]
 rfl
def tRBelow:Tree:=(.req 0 []
(.lett 49 .num (.app 0 0 [])
(.req 1 [.var 0,.var 49]
(.lett 97 (.int .i64) (.app 1 0 [.var 0,.var 49])
(.lett 145 .bit (.cmp .lss (.var 97) (.lit 0))
(.ret [.var 145]))))))
theorem law_rBelow (f1 f2 f:FuncId) (e:Nat->Int) (hk:kkHas [.num] [e 0]):tRBelow.says [kMBase f1,kWCmp f2] ⟨fun ys=>ys=(kRBelow f).sem [e 0],[]⟩ e:=by
 clear hk
 show tRBelow.says _ ⟨fun ys=>ys=[bj (e 0<bP)],[]⟩ e
 refine ⟨trivial,?_⟩
 intro a49 k49
 have q49:=(show e 49=bP from a49)
 clear a49 k49
 refine ⟨trivial,?_⟩
 intro a97 k97
 have q97:=(show e 97=if (e 0)<(e 49) then -1 else if (e 0)=(e 49) then 0 else 1 from a97)
 clear a97 k97
 intro a145 k145
 have b145:=c_lt a145
 simp only [ev_var,ev_lit,ev_limb] at b145
 clear a145 k145
 show [e 145]=_
 rw [q49] at q97
 exact congrArg (fun x=>[x]) (bj_of (p:=e 0<bP) (by
  rcases b145 with ⟨h1,h2⟩ | ⟨h1,h2⟩
  ·left;refine ⟨h1,?_⟩;rw [q97] at h2;split at h2
   ·assumption
   ·split at h2 <;> exact absurd h2 (by decide)
  ·right;refine ⟨h1,fun hc=>h2 ?_⟩;rw [q97,if_pos hc];decide))
def eR:Nat:=((bP+1)/4).toNat
def rtV (a:Int):Int:=a^eR%bP
def sqV (a:Int):Prop:=rtV a*rtV a%bP=a%bP
theorem rt_rng (a:Int):0<=rtV a/\rtV a<bP:=md_lt bP_pos
theorem rtV_mod (a:Int):rtV (a%bP)=rtV a:=mdE_pow (Int.emod_emod_of_dvd _ (Int.dvd_refl _)) _
theorem sqV_mod (a:Int):sqV (a%bP)↔sqV a:=by unfold sqV;rw [rtV_mod,Int.emod_emod_of_dvd _ (Int.dvd_refl _)]
theorem neg_md {c:Int} (h0:0<c) (h1:c<bP):(-c)%bP=bP-c:=md_eq (-1) (by omega) (by omega) (by omega)
def kShR2 (f:FuncId):K:={fn:=f,ext:=false,ins:=[iN,.one (.cst (.int .i64 (.lit (-2))))],outs:=[oN],pre:=fun _=>True,sem:=fun | [a]=>[a/4] | _=>[] }
noncomputable def kAbove (f:FuncId):K:={fn:=f,ext:=false,ins:=[iN],outs:=[oB],pre:=fun _=>True,sem:=fun | [a]=>[bj (bP/2<a)] | _=>[] }
theorem or_62 {v s r ln lj:Int} (h:v=binE .or .u64 s r) (hs:s=binE .shl .u64 ln 62) (hr:r=binE .shr .u64 lj 2) (un:U ln) (uj:U lj):v=ln%4*4611686018427387904+lj/4:=by
 have h1:=shl_d 4611686018427387904 hs (by decide)
 have h2:=shr_d 4 hr rfl (by decide)
 unfold U at *
 simp only [wr] at h1
 rw [or_dis (k:=62) (q:=ln%4) h (by omega) (by omega) (by omega) (by omega)]
 omega
theorem or_02 {v r lj:Int} (h:v=binE .or .u64 0 r) (hr:r=binE .shr .u64 lj 2) (uj:U lj):v=lj/4:=by
 have h2:=shr_d 4 hr rfl (by decide)
 unfold U at *
 rw [or_dis (k:=63) (q:=0) h (by omega) (by omega) (by omega) (by omega)]
 omega
theorem quart_join {x o0 o1 o2 o3 o4 o5:Int} (hx:0<=x/\x<N384) (h0:o0=lim x 1%4*4611686018427387904+lim x 0/4) (h1:o1=lim x 2%4*4611686018427387904+lim x 1/4) (h2:o2=lim x 3%4*4611686018427387904+lim x 2/4)
  (h3:o3=lim x 4%4*4611686018427387904+lim x 3/4) (h4:o4=lim x 5%4*4611686018427387904+lim x 4/4) (h5:o5=lim x 5/4):joinE [o0,o1,o2,o3,o4,o5]=x/4:=by
 have ex:=lim_eq hx
 have l0:=lim_lt x 0
 have l1:=lim_lt x 1
 have l2:=lim_lt x 2
 have l3:=lim_lt x 3
 have l4:=lim_lt x 4
 have l5:=lim_lt x 5
 rw [joinE6]
 generalize lim x 0=x0 at *
 generalize lim x 1=x1 at *
 generalize lim x 2=x2 at *
 generalize lim x 3=x3 at *
 generalize lim x 4=x4 at *
 generalize lim x 5=x5 at *
 omega
def tShR2:Tree:=(.lett 1 (.int .u64) (.bin .shl .u64 (.limb 0 1) (.lit 62))
(.lett 386 (.int .u64) (.bin .shr .u64 (.limb 0 0) (.lit 2))
(.lett 434 (.int .u64) (.bin .or .u64 (.var 1) (.var 386))
(.lett 578 (.int .u64) (.bin .shl .u64 (.limb 0 2) (.lit 62))
(.lett 963 (.int .u64) (.bin .shr .u64 (.limb 0 1) (.lit 2))
(.lett 1011 (.int .u64) (.bin .or .u64 (.var 578) (.var 963))
(.lett 1155 (.int .u64) (.bin .shl .u64 (.limb 0 3) (.lit 62))
(.lett 1540 (.int .u64) (.bin .shr .u64 (.limb 0 2) (.lit 2))
(.lett 1588 (.int .u64) (.bin .or .u64 (.var 1155) (.var 1540))
(.lett 1732 (.int .u64) (.bin .shl .u64 (.limb 0 4) (.lit 62))
(.lett 2117 (.int .u64) (.bin .shr .u64 (.limb 0 3) (.lit 2))
(.lett 2165 (.int .u64) (.bin .or .u64 (.var 1732) (.var 2117))
(.lett 2309 (.int .u64) (.bin .shl .u64 (.limb 0 5) (.lit 62))
(.lett 2694 (.int .u64) (.bin .shr .u64 (.limb 0 4) (.lit 2))
(.lett 2742 (.int .u64) (.bin .or .u64 (.var 2309) (.var 2694))
(.lett 3270 (.int .u64) (.bin .shr .u64 (.limb 0 5) (.lit 2))
(.lett 3318 (.int .u64) (.bin .or .u64 (.lit 0) (.var 3270))
(.lett 3462 .num (.join [.var 434,.var 1011,.var 1588,.var 2165,.var 2742,.var 3318])
(.ret [.var 3462])))))))))))))))))))
theorem law_shR2 (f:FuncId) (e:Nat->Int) (hk:kkHas [.num] [e 0]):tShR2.says [] ⟨fun ys=>ys=(kShR2 f).sem [e 0],[]⟩ e:=by
 have h0:=hk.1
 have z:=U_lim e
 intro s1 _ r1 _ o1 _ s2 _ r2 _ o2 _ s3 _ r3 _ o3 _ s4 _ r4 _ o4 _ s5 _ r5 _ o5 _ r6 _ o6 _ aj _
 have hj:=quart_join h0 (or_62 o1 s1 r1 (z _ _) (z _ _)) (or_62 o2 s2 r2 (z _ _) (z _ _)) (or_62 o3 s3 r3 (z _ _) (z _ _)) (or_62 o4 s4 r4 (z _ _) (z _ _)) (or_62 o5 s5 r5 (z _ _) (z _ _)) (or_02 o6 r6 (z _ _))
 show [e 3462]=[e 0/4]
 rw [<- hj];exact congrArg (fun x=>[x]) aj
theorem eR_of:((bP+1)%N384/4).toNat=eR:=by decide +kernel
theorem eR_2:((bP+1)%N384/2^(2:Int).toNat).toNat=eR:=by decide +kernel
theorem cmpV_gt {v a b:Int} (h:v=if a<b then -1 else if a=b then 0 else 1):v > 0↔b<a:=by
 rw [h];split
 ·exact ⟨fun h=>absurd h (by decide),fun h=>by omega⟩
 ·split
  ·exact ⟨fun h=>absurd h (by decide),fun h=>by omega⟩
  ·exact ⟨fun _=>by omega,fun _=>by decide⟩
theorem above_of {v c x h:Int} (hh:h=bP/2) (hc:c=if x<h then -1 else if x=h then 0 else 1) (hv:(v=1/\c > 0)∨(v=0/\¬ c > 0)):v=bj (bP/2<x):=by
 have:=cmpV_gt hc
 rw [hh] at this
 exact bj_of (by
  rcases hv with ⟨h1,h2⟩ | ⟨h1,h2⟩
  ·exact .inl ⟨h1,this.1 h2⟩
  ·exact .inr ⟨h1,fun h=>h2 (this.2 h)⟩)
def tAbove:Tree:=(.req 2 []
(.lett 49 .num (.app 2 0 [])
(.req 1 [.var 49]
(.lett 97 .num (.app 1 0 [.var 49])
(.req 0 [.var 0,.var 97]
(.lett 145 (.int .i64) (.app 0 0 [.var 0,.var 97])
(.lett 193 .bit (.cmp .gtr (.var 145) (.lit 0))
(.ret [.var 193]))))))))
theorem law_above (f1 f2 f3 f:FuncId) (e:Nat->Int):tAbove.says [kWCmp f1,kShR1 f2,kMBase f3] ⟨fun ys=>ys=(kAbove f).sem [e 0],[]⟩ e:=by
 refine ⟨trivial,fun a49 _=>⟨trivial,fun a97 _=>⟨trivial,fun a145 _ a193 _=>?_⟩⟩⟩
 have b:=c_gt a193
 simp only [ev_var,ev_lit] at b
 show [e 193]=[bj (bP/2<e 0)]
 rw [above_of (x:=e 0) (h:=e 97) (by rw [show e 97=e 49/2 from a97,show e 49=bP from a49]) a145 b]
def tRHigh:Tree:=(.req 1 []
(.lett 49 .num (.app 1 0 [])
(.req 0 [.var 49]
(.lett 97 .num (.app 0 0 [.var 49])
(.req 2 [.var 0,.var 97]
(.lett 145 (.int .i64) (.app 2 0 [.var 0,.var 97])
(.lett 193 .bit (.cmp .gtr (.var 145) (.lit 0))
(.ret [.var 193]))))))))
theorem law_rHigh (f1 f2 f3 f:FuncId) (e:Nat->Int):tRHigh.says [kShR 1 f1,kMBase f2,kWCmp f3] ⟨fun ys=>ys=(kAbove f).sem [e 0],[]⟩ e:=by
 refine ⟨trivial,fun a49 _=>⟨trivial,fun a97 _=>⟨trivial,fun a145 _ a193 _=>?_⟩⟩⟩
 have b:=c_gt a193
 simp only [ev_var,ev_lit] at b
 show [e 193]=[bj (bP/2<e 0)]
 rw [above_of (x:=e 0) (h:=e 97) (by rw [show e 97=e 49/2^(1:Int).toNat from a97,show e 49=bP from a49];rfl) a145 b]
theorem le_nz {v w b:Int} (h:v=b2i (cmpE .leq w b)) (hw:w<=b):v≠0:=by have:=c_le h;omega
def tRWords:Tree:=(.req 0 [.var 0]
(.lett 1 (.int .i64) (.app 0 0 [.var 0])
(.lett 2 (.int .i64) (.bin .add .i64 (.var 1) (.lit 63))
(.lett 3 (.int .i64) (.bin .quo .i64 (.var 2) (.lit 64))
(.lett 4 .bit (.cmp .leq (.lit 0) (.var 3))
(.lett 5 .bit (.cmp .leq (.var 3) (.lit 6))
(.nz (.var 4)
(.nz (.var 5)
(.lett 6 (.lst (.int .u64)) (.lapp (.lit 0) [.limb 0 0,.limb 0 1,.limb 0 2,.limb 0 3,.limb 0 4,.limb 0 5])
(.ret [.var 6,.var 3]))))))))))
theorem law_rWords (te:TypeId) (f1 f:FuncId) (e:Nat->Int) (hk:kkHas [.num] [e 0]):tRWords.says [kWLen f1] ⟨fun ys=>ys=(kWords te f).sem [e 0],[]⟩ e:=by
 have k0:0<=e 0/\e 0<N384:=hk.1
 have hw:=wlen_rng k0
 have b0:=blen_nn (e 0)
 have b1:=blen_le 384 (e 0) k0.1 (by rw [p384];exact k0.2)
 refine ⟨trivial,fun a1 _ a2 _ a3 _ a4 _ a5 _=>?_⟩
 have v1:e 1=blen (e 0):=a1
 have v2:=add_ (a:=e 1) (b:=63) a2 (by omega)
 have v3:=quo_ (i:=e 2) 64 (by decide) (by omega) a3
 have w3:e 3=wlen (e 0):=by unfold wlen;rw [v3,v2,v1]
 refine ⟨bit_nz a4 (by show 0<=e 3;omega),le_nz a5 (by show e 3<=6;omega),fun a6 _=>?_⟩
 show [e 6,e 3]=[enc (limsI (e 0)),wlen (e 0)]
 rw [w3,show e 6=enc (dec 0++limsI (e 0)) from a6,dec_zero,List.nil_append]
def kRFlags (f:FuncId):K:={fn:=f,ext:=false,ins:=[.one .bool,.one .bool],outs:=[.one (.int .u8)],pre:=fun _=>True,sem:=fun | [a,b]=>[if a=0 then (if b=0 then 128 else 160) else 192] | _=>[] }
set_option exponentiation.threshold 500 in
theorem bP_top:bP<32*2^(8*47):=by decide +kernel
set_option exponentiation.threshold 500 in
theorem top_byte {x:Int} (h0:0<=x) (h1:x<bP):0<=byteAt x 47/\byteAt x 47<32:=by
 have h2:x/2^(8*47)<32:=by
  exact Int.ediv_lt_of_lt_mul (Int.pow_pos (by decide)) (Int.lt_trans h1 bP_top)
 have h3:0<=x/2^(8*47):=Int.ediv_nonneg h0 (Int.pow_nonneg (by decide))
 unfold byteAt
 omega
theorem or8 {b:Int} (h:0<=b/\b<32):binE .or .u8 b 128=b+128/\binE .or .u8 (b+128) 64=b+192/\binE .or .u8 (b+128) 32=b+160/\binE .or .u8 b 192=b+192/\binE .or .u8 b 160=b+160:=by
 obtain ⟨n,rfl⟩:=Int.eq_ofNat_of_zero_le h.1
 have hd:∀ n:Fin 32,binE .or .u8 ((n.val:Nat):Int) 128=(n.val:Nat)+128/\binE .or .u8 ((n.val:Nat)+128) 64=(n.val:Nat)+192/\binE .or .u8 ((n.val:Nat)+128) 32=(n.val:Nat)+160/\binE .or .u8 ((n.val:Nat):Int) 192=(n.val:Nat)+192/\binE .or .u8 ((n.val:Nat):Int) 160=(n.val:Nat)+160:=by decide
 exact hd ⟨n,by omega⟩
theorem bytesV_0 (x:Int):(bytesV x).getD 0 0=byteAt x 47:=bytesV_at x (i:=0) ⟨by decide,by decide⟩
theorem set_0 (l:List Int) (c d:Int):(l.set 0 c).set 0 d=l.set 0 d:=List.set_set ..
theorem getD_set0 {l:List Int} (h:0<l.length) (c:Int):(l.set 0 c).getD 0 0=c:=by
 rw [List.getD_eq_getElem?_getD,List.getElem?_set_self h];rfl
def tRFlags:Tree:=(.split 0
(.ret [.lit 192])
(.split 1
 (.ret [.lit 160])
 (.ret [.lit 128])))
theorem law_rFlags (f:FuncId) (e:Nat->Int):tRFlags.says [] ⟨fun ys=>ys=(kRFlags f).sem [e 0,e 1],[]⟩ e:=by
 show tRFlags.says _ ⟨fun ys=>ys=[if e 0=0 then (if e 1=0 then 128 else 160) else 192],[]⟩ e
 refine ⟨fun h=>?_,fun h=>⟨fun h2=>?_,fun h2=>?_⟩⟩
 ·rw [if_neg h];rfl
 ·rw [if_pos h,if_neg h2];rfl
 ·rw [if_pos h,if_pos h2];rfl
theorem c_same {T:List K} {e:Nat->Int} {v:Int} {a b:A} (h:v=(D.lsame a b).ev T e):(v=1/\dec (a.ev e)=dec (b.ev e))∨(v=0/\¬ dec (a.ev e)=dec (b.ev e)):=by
 have h:v=b2i (dec (a.ev e)==dec (b.ev e)):=h
 by_cases hc:dec (a.ev e)=dec (b.ev e)
 ·exact .inl ⟨by rw [h,hc];simp [b2i],hc⟩
 ·exact .inr ⟨by rw [h];simp [b2i,hc],hc⟩
end Go.Sx

namespace Go.Sx
open Go Go.RowKit
set_option maxRecDepth 100000
def prP (p:Int):Prop:=p=786251∨p=1152921504606846223
theorem pr_ok {p:Int} (h:prP p):pOk p:=by rcases h with rfl | rfl <;> exact ⟨by decide,by decide⟩
theorem pr_odd {p:Int} (h:prP p):p%2=1:=by rcases h with rfl | rfl <;> decide
theorem pr_isP {p:Int} (h:prP p):Np.isP p.toNat:=by
 rcases h with rfl | rfl
 ·exact Np.p786251
 ·exact Np.p_mid7
theorem dvd_md {p a b:Int}:a%p=b%p↔p∣a-b:=by
 constructor
 ·intro h;exact Int.dvd_of_emod_eq_zero (Int.emod_eq_emod_iff_emod_sub_eq_zero.1 h)
 ·intro h;exact Int.emod_eq_emod_iff_emod_sub_eq_zero.2 (Int.emod_eq_zero_of_dvd h)
theorem inv_pr {p a:Int} (hp:prP p) (h0:0<=a) (hn:¬ p∣a):p∣a*invP p a-1:=by
 have ok:=pr_ok hp
 have hP:=pr_isP hp
 obtain ⟨n,rfl⟩:=Int.eq_ofNat_of_zero_le h0
 obtain ⟨q,rfl⟩:=Int.eq_ofNat_of_zero_le (show 0<=p by have:=ok.1;omega)
 have hq:3<=q:=by have:=ok.1;omega
 have hf:=Np.fermat (x:=n) hP (fun h=>hn (Int.natCast_dvd_natCast.2 (by simpa using h)))
 rw [Int.toNat_natCast] at hf
 refine dvd_md.1 ?_
 unfold invP pwM
 rw [Int.toNat_natCast,Int.toNat_natCast,show ((q:Int)-2).toNat=q-2 by omega]
 have:n*(n^(q-2)%q)%q=1:=by
  rw [Nat.mul_mod,Nat.mod_mod,<- Nat.mul_mod,Nat.mul_comm,<- Nat.pow_succ,show (q-2).succ=q-1 by omega];exact hf
 rw [show (1:Int)%(q:Int)=((1:Nat):Int) from Int.emod_eq_of_lt (by decide) (by omega),<- this]
 simp only [Int.natCast_mul,Int.natCast_emod]
theorem close_chord {p x1 y1 x2 y2 m i:Int} (h1:p∣y1*y1-(x1*x1*x1+x1)) (h2:p∣y2*y2-(x2*x2*x2+x2)) (hi:p∣(x2-x1)*i-1) (hm:p∣m*(x2-x1)-(y2-y1)) :
  p∣(m*(x1-(m*m-x1-x2))-y1)*(m*(x1-(m*m-x1-x2))-y1)-((m*m-x1-x2)*(m*m-x1-x2)*(m*m-x1-x2)+(m*m-x1-x2)):=by
 have h:(m*(x1-(m*m-x1-x2))-y1)*(m*(x1-(m*m-x1-x2))-y1)-((m*m-x1-x2)*(m*m-x1-x2)*(m*m-x1-x2)+(m*m-x1-x2)) =
   (y2*y2-(x2*x2*x2+x2))*(i*(m*m-x1-x2-x1))+(m*(x2-x1)-(y2-y1))*((y1+m*(x2-x1)+y2)*i*(m*m-x1-x2-x1))+(y1*y1-(x1*x1*x1+x1))*(1-i*(m*m-x1-x2-x1)) +
   ((x2-x1)*i-1)*((1-2*m*(y1-m*x1)-(x1*x2+(x1+x2)*(m*m-x1-x2)))*(m*m-x1-x2-x1)):=by grind
 rw [h]
 exact Int.dvd_add (Int.dvd_add (Int.dvd_add (Int.dvd_mul_of_dvd_left h2) (Int.dvd_mul_of_dvd_left hm)) (Int.dvd_mul_of_dvd_left h1)) (Int.dvd_mul_of_dvd_left hi)
theorem close_tan {p x1 y1 m:Int} (h1:p∣y1*y1-(x1*x1*x1+x1)) (hm:p∣m*(y1+y1)-(x1*x1+x1*x1+x1*x1+1)) :
  p∣(m*(x1-(m*m-x1-x1))-y1)*(m*(x1-(m*m-x1-x1))-y1)-((m*m-x1-x1)*(m*m-x1-x1)*(m*m-x1-x1)+(m*m-x1-x1)):=by
 have h:(m*(x1-(m*m-x1-x1))-y1)*(m*(x1-(m*m-x1-x1))-y1)-((m*m-x1-x1)*(m*m-x1-x1)*(m*m-x1-x1)+(m*m-x1-x1)) =
   (m*(y1+y1)-(x1*x1+x1*x1+x1*x1+1))*(m*m-x1-x1-x1)+(y1*y1-(x1*x1*x1+x1)):=by grind
 rw [h]
 exact Int.dvd_add (Int.dvd_mul_of_dvd_left hm) h1
theorem md2 (x p:Int):x%p%p=x%p:=Int.emod_emod_of_dvd _ (Int.dvd_refl _)
theorem right_md (p x:Int):rightP p x=(x*x*x+x)%p:=by
 unfold rightP
 have h1:x*x%p*x%p%p=x*x*x%p:=(md2 _ _).trans (mdE_mul (md2 (x*x) p) rfl)
 exact mdE_add h1 rfl
def onL (p:Int) (a:Pt):Prop:=onP p a.x a.y a.z/\(0<=a.x/\0<=a.y)/\(a.z=0∨a.z=1)
theorem onL.lt {p:Int} (hp:0<p) {a:Pt} (h:onL p a):a.lt p:=by
 have:=h.1
 unfold onP at this
 have h2:=h.2.1
 split at this
 ·exact ⟨⟨h2.1,this.1⟩,h2.2,this.2.1⟩
 ·exact ⟨⟨h2.1,by omega⟩,h2.2,by omega⟩
theorem onL.eq {p:Int} {a:Pt} (h:onL p a) (hz:a.z=0):p∣a.y*a.y-(a.x*a.x*a.x+a.x):=by
 have:=h.1
 unfold onP at this
 rw [if_pos hz,right_md] at this
 exact dvd_md.1 this.2.2
theorem onL_O (p:Int):onL p ⟨0,0,1⟩:=⟨by unfold onP;rw [if_neg (by decide)];exact ⟨rfl,rfl⟩,⟨Int.le_refl _,Int.le_refl _⟩,.inr rfl⟩
theorem onL_mk {p x1 y1 x2 m:Int} (hp:0<p) (h:p∣(m*(x1-(m*m-x1-x2))-y1)*(m*(x1-(m*m-x1-x2))-y1)-((m*m-x1-x2)*(m*m-x1-x2)*(m*m-x1-x2)+(m*m-x1-x2))) :
  onL p ⟨((m*m%p-x1)%p-x2)%p,(m*((x1-((m*m%p-x1)%p-x2)%p)%p)%p-y1)%p,0⟩:=by
 have hx:((m*m%p-x1)%p-x2)%p=(m*m-x1-x2)%p:=mdE_sub ((md2 _ _).trans (mdE_sub (md2 _ _) rfl)) rfl
 have hy:(m*((x1-(m*m-x1-x2)%p)%p)%p-y1)%p=(m*(x1-(m*m-x1-x2))-y1)%p:=mdE_sub ((md2 _ _).trans (mdE_mul rfl ((md2 _ _).trans (mdE_sub rfl (md2 _ _))))) rfl
 rw [hx,hy]
 generalize hX:m*m-x1-x2=X at *
 generalize hY:m*(x1-X)-y1=Y at *
 have l1:=md_lt (x:=X) hp
 have l2:=md_lt (x:=Y) hp
 refine ⟨?_,⟨l1.1,l2.1⟩,.inl rfl⟩
 unfold onP
 rw [if_pos rfl,right_md]
 refine ⟨l1.2,l2.2,?_⟩
 rw [mdE_mul (md2 Y p) (md2 Y p),mdE_add (mdE_mul (mdE_mul (md2 X p) (md2 X p)) (md2 X p)) (md2 X p)]
 exact dvd_md.2 h
theorem nd_of {p a:Int} (h0:0<a) (h1:a<p):¬ p∣a:=fun h=>by
 have:=Int.emod_eq_zero_of_dvd h
 rw [Int.emod_eq_of_lt (by omega) h1] at this;omega
theorem sub_nd {p a b:Int} (ha:0<=a/\a<p) (hb:0<=b/\b<p) (h:a≠b):¬ p∣(b-a)%p:=fun hc=>by
 have h1:=md_lt (x:=b-a) (n:=p) (by omega)
 have h2:(b-a)%p=0:=by have:=Int.emod_eq_zero_of_dvd hc;rwa [md2] at this
 have h3:=Int.dvd_of_emod_eq_zero h2
 rcases Int.lt_trichotomy a b with h4 | h4 | h4
 ·exact nd_of (by omega) (by omega) h3
 ·exact h h4
 ·have:p∣a-b:=by rw [show a-b=-(b-a) by omega];exact (Int.dvd_neg).2 h3
  exact nd_of (by omega) (by omega) this
theorem slope_chord {p x y x' y':Int} (hp:prP p) (hx:0<=x/\x<p) (hx':0<=x'/\x'<p) (h:x≠x'):∃ i,p∣(x'-x)*i-1/\p∣(y'-y)%p*invP p ((x'-x)%p)%p*(x'-x)-(y'-y):=by
 have hi:=inv_pr hp (md_lt (x:=x'-x) (by have:=(pr_ok hp).1;omega)).1 (sub_nd hx hx' h)
 refine ⟨invP p ((x'-x)%p),?_,?_⟩
 ·refine dvd_md.1 ?_
  have:=dvd_md.2 hi
  rw [<- this];exact mdE_mul (md2 _ _).symm rfl
 ·generalize invP p ((x'-x)%p)=i at *
  have h1:=dvd_md.2 hi
  refine dvd_md.1 ?_
  have e1:((y'-y)%p*i%p*(x'-x))%p=((y'-y)*((x'-x)%p*i))%p:=by
   rw [show (y'-y)*((x'-x)%p*i)=(y'-y)*i*((x'-x)%p) by rw [Int.mul_comm ((x'-x)%p) i,Int.mul_assoc]]
   exact mdE_mul ((md2 _ _).trans (mdE_mul (md2 _ _) rfl)) (md2 _ _).symm
  rw [e1,mdE_mul (p:=p) rfl h1,Int.mul_one]
theorem slope_tan {p x y:Int} (hp:prP p) (hy:0<y/\y<p):p∣(((x*x%p+x*x%p)%p+x*x%p)%p+1)%p*invP p ((y+y)%p)%p*(y+y)-(x*x+x*x+x*x+1):=by
 have ho:=pr_odd hp
 have p0:0<p:=by omega
 have hn:¬ p∣(y+y)%p:=fun hc=>by
  have h2:(y+y)%p=0:=by have:=Int.emod_eq_zero_of_dvd hc;rwa [md2] at this
  rcases Int.lt_or_le (y+y) p with h | h
  ·rw [Int.emod_eq_of_lt (by omega) h] at h2;omega
  ·have:(y+y)%p=y+y-p:=md_eq 1 (by omega) (by omega) (by omega)
   omega
 have hi:=inv_pr hp (md_lt (x:=y+y) p0).1 hn
 generalize invP p ((y+y)%p)=i at *
 have h1:=dvd_md.2 hi
 refine dvd_md.1 ?_
 have q:=md2 (x*x) p
 have e0:(((x*x%p+x*x%p)%p+x*x%p)%p+1)%p%p=(x*x+x*x+x*x+1)%p:=(md2 _ _).trans (mdE_add ((md2 _ _).trans (mdE_add ((md2 _ _).trans (mdE_add q q)) q)) rfl)
 generalize (((x*x%p+x*x%p)%p+x*x%p)%p+1)%p=u at *
 generalize x*x+x*x+x*x+1=v at *
 have e1:(u*i%p*(y+y))%p=(v*((y+y)%p*i))%p:=by
  rw [show v*((y+y)%p*i)=v*i*((y+y)%p) by rw [Int.mul_comm ((y+y)%p) i,Int.mul_assoc]]
  exact mdE_mul ((md2 _ _).trans (mdE_mul e0 rfl)) (md2 _ _).symm
 rw [e1,mdE_mul (p:=p) rfl h1,Int.mul_one]
theorem sum_ok {p:Int} (hp:prP p) {a b:Pt} (ha:onL p a) (hb:onL p b):onL p (sumP p a b):=by
 have p0:0<p:=by have:=(pr_ok hp).1;omega
 have la:=ha.lt p0
 have lb:=hb.lt p0
 unfold sumP
 split
 ·exact hb
 ·rename_i hza
  split
  ·exact ha
  ·rename_i hzb
   have ea:=ha.eq (by omega)
   have eb:=hb.eq (by omega)
   unfold slopeP
   by_cases hx:a.x≠b.x
   ·rw [if_pos hx]
    simp only []
    rw [if_neg (by decide)]
    obtain ⟨i,h1,h2⟩:=slope_chord (y:=a.y) (y':=b.y) hp la.1 lb.1 hx
    exact onL_mk p0 (close_chord ea eb h1 h2)
   ·rw [if_neg hx]
    by_cases hy:a.y≠b.y∨a.y=0
    ·rw [if_pos hy]
     simp only []
     rw [if_pos trivial]
     exact onL_O p
    ·rw [if_neg hy]
     simp only []
     rw [if_neg (by decide)]
     have hx':b.x=a.x:=by omega
     have:=slope_tan (x:=a.x) (y:=a.y) hp ⟨by have:=la.2.1;omega,la.2.2⟩
     rw [hx']
     exact onL_mk p0 (close_tan ea this)
theorem mul_ok {p:Int} (hp:prP p) {a:Pt} (ha:onL p a):∀ (k n:Nat),onL p (mulP p a k n)
 | 0,_=>onL_O p
 | k+1,n=>by
  unfold mulP
  split
  ·exact onL_O p
  ·simp only []
   have h:=mul_ok hp ha k (n/2)
   split
   ·exact sum_ok hp (sum_ok hp h h) ha
   ·exact sum_ok hp h h
theorem opp_iff {p:Int} (hp:prP p) {a b:Pt} (ha:onL p a) (hb:onL p b) (hza:a.z=0) (hzb:b.z=0) (hx:a.x=b.x):a.y=(-b.y)%p↔(a.y≠b.y∨a.y=0):=by
 have p0:0<p:=by have:=(pr_ok hp).1;omega
 have la:=(ha.lt p0).2
 have lb:=(hb.lt p0).2
 have ho:=pr_odd hp
 have hneg:(-b.y)%p=if b.y=0 then 0 else p-b.y:=by
  split
  ·rename_i h;rw [h];rfl
  ·exact md_eq (-1) (by omega) (by omega) (by omega)
 rw [hneg]
 constructor
 ·intro h
  by_cases hy:a.y=b.y
  ·right
   split at h
   ·exact h
   ·omega
  ·exact .inl hy
 ·intro h
  by_cases hy:a.y=b.y
  ·have:a.y=0:=by
    rcases h with h | h
    ·exact absurd hy h
    ·exact h
   rw [if_pos (by omega)];exact this
  ·have h1:p∣(b.y-a.y)*(b.y+a.y):=by
    have e1:=ha.eq hza
    have e2:=hb.eq hzb
    have:(b.y-a.y)*(b.y+a.y)=(b.y*b.y-(b.x*b.x*b.x+b.x))-(a.y*a.y-(a.x*a.x*a.x+a.x)):=by rw [hx];grind
    rw [this];exact Int.dvd_sub e2 e1
   have hn:=sub_nd la lb hy
   have hi:=inv_pr hp (md_lt (x:=b.y-a.y) p0).1 hn
   generalize invP p ((b.y-a.y)%p)=i at *
   have h2:p∣(b.y-a.y)*i-1:=by
    refine dvd_md.1 ?_
    rw [<- dvd_md.2 hi];exact mdE_mul (md2 _ _).symm rfl
   have h3:p∣b.y+a.y:=by
    have:b.y+a.y=(b.y-a.y)*(b.y+a.y)*i-((b.y-a.y)*i-1)*(b.y+a.y):=by grind
    rw [this];exact Int.dvd_sub (Int.dvd_mul_of_dvd_left h1) (Int.dvd_mul_of_dvd_left h2)
   have h4:=Int.emod_eq_zero_of_dvd h3
   rcases Int.lt_or_le (b.y+a.y) p with h | h
   ·rw [Int.emod_eq_of_lt (by omega) h] at h4;omega
   ·have:(b.y+a.y)%p=b.y+a.y-p:=md_eq 1 (by omega) (by omega) (by omega)
    rw [if_neg (by omega)];omega
def tanP (p x y:Int):Int:=(((x*x%p+x*x%p)%p+x*x%p)%p+1)%p*invP p ((y+y)%p)%p
def chordP (p x y x' y':Int):Int:=(y'-y)%p*invP p ((x'-x)%p)%p
def slopeR (p x y z x' y' z':Int):Int:=if x=x'/\y=y'/\z=z' then tanP p x y else chordP p x y x' y'
def kCSlope (f:FuncId):K:={fn:=f,ext:=false,ins:=[iC,iPt,iPt],outs:=[oU],pre:=fun | [p,_,_,_,_,_,x,y,_,x',y',_]=>pOk p/\x<p/\y<p/\x'<p/\y'<p | _=>False,sem:=fun | [p,_,_,_,_,_,x,y,z,x',y',z']=>[slopeR p x y z x' y' z'] | _=>[] }
def kCNegP (f:FuncId):K:={fn:=f,ext:=false,ins:=[iC,iPt],outs:=[oPt],pre:=fun | [p,_,_,_,_,_,_,y,_]=>pOk p/\y<p | _=>False,sem:=fun | [p,_,_,_,_,_,x,y,z]=>[x,(-y)%p,z] | _=>[] }
def kCAddP (f:FuncId):K:={fn:=f,ext:=false,ins:=[iC,iPt,iPt],outs:=[oPt],pre:=fun | [p,_,_,_,_,_,x,y,z,x',y',z']=>prP p/\onL p ⟨x,y,z⟩/\onL p ⟨x',y',z'⟩ | _=>False,sem:=fun | [p,_,_,_,_,_,x,y,z,x',y',z']=>(sumP p ⟨x,y,z⟩ ⟨x',y',z'⟩).l | _=>[] }
def kCTimes (f:FuncId):K:={fn:=f,ext:=false,ins:=[iC,iPt,iU],outs:=[oPt],pre:=fun | [p,_,_,_,_,_,x,y,z,_]=>prP p/\onL p ⟨x,y,z⟩ | _=>False,sem:=fun | [p,_,_,_,_,_,x,y,z,n]=>(mulP p ⟨x,y,z⟩ 64 n.toNat).l | _=>[] }
def kCIn (f:FuncId):K:={fn:=f,ext:=false,ins:=[iC,iPt],outs:=[oB],pre:=fun | [p,_,_,_,_,_,_,_,_]=>prP p | _=>False,sem:=fun | [p,r,_,_,_,_,x,y,z]=>[bi (inP p r x y z)] | _=>[] }
theorem c_v3 {T:List K} {e:Nat->Int} {v:Int} {i j k i' j' k':Nat} (h:v=(D.eqs [(.var i,.var i'),(.var j,.var j'),(.var k,.var k')]).ev T e):(v=1/\(e i=e i'/\e j=e j'/\e k=e k'))∨(v=0/\¬ (e i=e i'/\e j=e j'/\e k=e k')):=by
 have h:v=b2i ([(A.var i,A.var i'),(.var j,.var j'),(.var k,.var k')].all fun p=>p.1.ev e==p.2.ev e):=h
 simp only [List.all_cons,List.all_nil,Bool.and_true,A.ev] at h
 by_cases h1:e i=e i' <;> by_cases h2:e j=e j' <;> by_cases h3:e k=e k' <;> simp [h1,h2,h3,b2i] at h <;> simp [h,h1,h2,h3]
theorem law_cSide (f1 f2 f:FuncId) (e:Nat->Int) (hp:(kLRight f).pre [e 0,e 1,e 2,e 3,e 4,e 5,e 6]):tLRight.says [kLMul f1,kLAdd f2] ⟨fun ys=>ys=(kLRight f).sem [e 0,e 1,e 2,e 3,e 4,e 5,e 6],[]⟩ e:=law_lRight f1 f2 f e hp
def tCNegP:Tree:=(.req 0 [.var 0,.var 1,.var 2,.var 3,.var 4,.var 5,.var 7]
(.lett 9 (.int .u64) (.app 0 0 [.var 0,.var 1,.var 2,.var 3,.var 4,.var 5,.var 7])
(.ret [.var 6,.var 9,.var 8])))
theorem law_cNegP (f1 f:FuncId) (e:Nat->Int) (hp:(kCNegP f).pre [e 0,e 1,e 2,e 3,e 4,e 5,e 6,e 7,e 8]):tCNegP.says [kCNeg f1] ⟨fun ys=>ys=(kCNegP f).sem [e 0,e 1,e 2,e 3,e 4,e 5,e 6,e 7,e 8],[]⟩ e:=by
 obtain ⟨hp,h7⟩:pOk (e 0)/\e 7<e 0:=hp
 have h1:=hp.1
 have h2:=hp.2
 refine ⟨⟨by show 0<e 0;omega,by show e 0<9223372036854775808;omega,by show e 7<=e 0;omega⟩,fun a9 _=>?_⟩
 show [e 6,e 9,e 8]=[e 6,(-e 7)%e 0,e 8]
 rw [show e 9=(-e 7)%e 0 from a9]
def tCSlope:Tree:=(.lett 12 .bit (.eqs [((.var 6),(.var 9)),((.var 7),(.var 10)),((.var 8),(.var 11))])
(.split 12
(.req 0 [.var 0,.var 1,.var 2,.var 3,.var 4,.var 5,.var 6,.var 6]
(.lett 13 (.int .u64) (.app 0 0 [.var 0,.var 1,.var 2,.var 3,.var 4,.var 5,.var 6,.var 6])
(.req 1 [.var 0,.var 1,.var 2,.var 3,.var 4,.var 5,.var 13,.var 13]
(.lett 302 (.int .u64) (.app 1 0 [.var 0,.var 1,.var 2,.var 3,.var 4,.var 5,.var 13,.var 13])
(.req 1 [.var 0,.var 1,.var 2,.var 3,.var 4,.var 5,.var 302,.var 13]
(.lett 398 (.int .u64) (.app 1 0 [.var 0,.var 1,.var 2,.var 3,.var 4,.var 5,.var 302,.var 13])
(.req 1 [.var 0,.var 1,.var 2,.var 3,.var 4,.var 5,.var 398,.lit 1]
(.lett 446 (.int .u64) (.app 1 0 [.var 0,.var 1,.var 2,.var 3,.var 4,.var 5,.var 398,.lit 1])
(.req 1 [.var 0,.var 1,.var 2,.var 3,.var 4,.var 5,.var 7,.var 7]
(.lett 782 (.int .u64) (.app 1 0 [.var 0,.var 1,.var 2,.var 3,.var 4,.var 5,.var 7,.var 7])
(.req 3 [.var 0,.var 1,.var 2,.var 3,.var 4,.var 5,.var 782]
(.lett 830 (.int .u64) (.app 3 0 [.var 0,.var 1,.var 2,.var 3,.var 4,.var 5,.var 782])
(.req 0 [.var 0,.var 1,.var 2,.var 3,.var 4,.var 5,.var 446,.var 830]
(.lett 878 (.int .u64) (.app 0 0 [.var 0,.var 1,.var 2,.var 3,.var 4,.var 5,.var 446,.var 830])
(.ret [.var 878])))))))))))))))
(.req 2 [.var 0,.var 1,.var 2,.var 3,.var 4,.var 5,.var 10,.var 7]
(.lett 301 (.int .u64) (.app 2 0 [.var 0,.var 1,.var 2,.var 3,.var 4,.var 5,.var 10,.var 7])
(.req 2 [.var 0,.var 1,.var 2,.var 3,.var 4,.var 5,.var 9,.var 6]
(.lett 637 (.int .u64) (.app 2 0 [.var 0,.var 1,.var 2,.var 3,.var 4,.var 5,.var 9,.var 6])
(.req 3 [.var 0,.var 1,.var 2,.var 3,.var 4,.var 5,.var 637]
(.lett 685 (.int .u64) (.app 3 0 [.var 0,.var 1,.var 2,.var 3,.var 4,.var 5,.var 637])
(.req 0 [.var 0,.var 1,.var 2,.var 3,.var 4,.var 5,.var 301,.var 685]
(.lett 733 (.int .u64) (.app 0 0 [.var 0,.var 1,.var 2,.var 3,.var 4,.var 5,.var 301,.var 685])
(.ret [.var 733])))))))))))
theorem law_cSlope (f1 f2 f3 f4 f:FuncId) (e:Nat->Int) (hp:(kCSlope f).pre [e 0,e 1,e 2,e 3,e 4,e 5,e 6,e 7,e 8,e 9,e 10,e 11]):tCSlope.says [kLMul f1,kLAdd f2,kCSub f3,kLInv f4] ⟨fun ys=>ys=(kCSlope f).sem [e 0,e 1,e 2,e 3,e 4,e 5,e 6,e 7,e 8,e 9,e 10,e 11],[]⟩ e:=by
 obtain ⟨hp,h6,h7,h9,h10⟩:pOk (e 0)/\e 6<e 0/\e 7<e 0/\e 9<e 0/\e 10<e 0:=hp
 have h1:=hp.1
 have h2:=hp.2
 have p0:0<e 0:=by omega
 have hl:∀ {v X:Int},v=X%e 0->v<e 0:=fun h=>by rw [h];exact (md_lt p0).2
 show tCSlope.says _ ⟨fun ys=>ys=[slopeR (e 0) (e 6) (e 7) (e 8) (e 9) (e 10) (e 11)],[]⟩ e
 unfold slopeR
 intro a12 _
 have b12:=c_v3 a12
 refine ⟨fun h=>?_,fun h=>?_⟩
 ·rw [if_pos (b_yes b12 h)]
  refine ⟨hp,fun a13 _=>?_⟩
  have v13:e 13=e 6*e 6%e 0:=a13
  refine ⟨⟨hp,hl v13,hl v13⟩,fun a302 _=>?_⟩
  have v302:e 302=(e 13+e 13)%e 0:=a302
  refine ⟨⟨hp,hl v302,hl v13⟩,fun a398 _=>?_⟩
  have v398:e 398=(e 302+e 13)%e 0:=a398
  refine ⟨⟨hp,hl v398,by show (1:Int)<e 0;omega⟩,fun a446 _=>⟨⟨hp,h7,h7⟩,fun a782 _=>⟨hp,fun a830 _=>⟨hp,fun a878 _=>?_⟩⟩⟩⟩
  show [e 878]=[tanP (e 0) (e 6) (e 7)]
  unfold tanP
  rw [show e 878=e 446*e 830%e 0 from a878,show e 830=invP (e 0) (e 782) from a830,show e 782=(e 7+e 7)%e 0 from a782,show e 446=(e 398+1)%e 0 from a446,v398,v302,v13]
 ·rw [if_neg (b_no b12 h)]
  have sb:∀ {a b:Int},a<e 0->b<e 0->(0<e 0/\e 0<9223372036854775808/\a<=e 0/\b<=e 0):=fun ha hb=>⟨p0,by omega,by omega,by omega⟩
  refine ⟨sb h10 h7,fun a301 _=>⟨sb h9 h6,fun a637 _=>⟨hp,fun a685 _=>⟨hp,fun a733 _=>?_⟩⟩⟩⟩
  show [e 733]=[chordP (e 0) (e 6) (e 7) (e 9) (e 10)]
  unfold chordP
  rw [show e 733=e 301*e 685%e 0 from a733,show e 685=invP (e 0) (e 637) from a685,show e 637=(e 9-e 6)%e 0 from a637,show e 301=(e 10-e 7)%e 0 from a301]
def tCAddP:Tree:=(.split 8
(.ret [.var 9,.var 10,.var 11])
(.split 11
 (.ret [.var 6,.var 7,.var 8])
 (.req 0 [.var 0,.var 1,.var 2,.var 3,.var 4,.var 5,.var 9,.var 10,.var 11]
 (.lett 156 (.int .u64) (.app 0 0 [.var 0,.var 1,.var 2,.var 3,.var 4,.var 5,.var 9,.var 10,.var 11])
 (.lett 157 (.int .u64) (.app 0 1 [.var 0,.var 1,.var 2,.var 3,.var 4,.var 5,.var 9,.var 10,.var 11])
 (.lett 158 .bit (.app 0 2 [.var 0,.var 1,.var 2,.var 3,.var 4,.var 5,.var 9,.var 10,.var 11])
 (.lett 204 .bit (.eqs [((.var 6),(.var 156)),((.var 7),(.var 157)),((.var 8),(.var 158))])
 (.split 204
 (.ret [.lit 0,.lit 0,.lit 1])
 (.req 1 [.var 0,.var 1,.var 2,.var 3,.var 4,.var 5,.var 6,.var 7,.var 8,.var 9,.var 10,.var 11]
 (.lett 252 (.int .u64) (.app 1 0 [.var 0,.var 1,.var 2,.var 3,.var 4,.var 5,.var 6,.var 7,.var 8,.var 9,.var 10,.var 11])
 (.req 3 [.var 0,.var 1,.var 2,.var 3,.var 4,.var 5,.var 252,.var 252]
 (.lett 493 (.int .u64) (.app 3 0 [.var 0,.var 1,.var 2,.var 3,.var 4,.var 5,.var 252,.var 252])
 (.req 2 [.var 0,.var 1,.var 2,.var 3,.var 4,.var 5,.var 493,.var 6]
 (.lett 637 (.int .u64) (.app 2 0 [.var 0,.var 1,.var 2,.var 3,.var 4,.var 5,.var 493,.var 6])
 (.req 2 [.var 0,.var 1,.var 2,.var 3,.var 4,.var 5,.var 637,.var 9]
 (.lett 781 (.int .u64) (.app 2 0 [.var 0,.var 1,.var 2,.var 3,.var 4,.var 5,.var 637,.var 9])
 (.req 2 [.var 0,.var 1,.var 2,.var 3,.var 4,.var 5,.var 6,.var 781]
 (.lett 1261 (.int .u64) (.app 2 0 [.var 0,.var 1,.var 2,.var 3,.var 4,.var 5,.var 6,.var 781])
 (.req 3 [.var 0,.var 1,.var 2,.var 3,.var 4,.var 5,.var 252,.var 1261]
 (.lett 1309 (.int .u64) (.app 3 0 [.var 0,.var 1,.var 2,.var 3,.var 4,.var 5,.var 252,.var 1261])
 (.req 2 [.var 0,.var 1,.var 2,.var 3,.var 4,.var 5,.var 1309,.var 7]
 (.lett 1453 (.int .u64) (.app 2 0 [.var 0,.var 1,.var 2,.var 3,.var 4,.var 5,.var 1309,.var 7])
 (.ret [.var 781,.var 1453,.lit 0])))))))))))))))))))))))
theorem law_cAddP (f1 f2 f3 f4 f:FuncId) (e:Nat->Int) (hp:(kCAddP f).pre [e 0,e 1,e 2,e 3,e 4,e 5,e 6,e 7,e 8,e 9,e 10,e 11]):tCAddP.says [kCNegP f1,kCSlope f2,kCSub f3,kLMul f4] ⟨fun ys=>ys=(kCAddP f).sem [e 0,e 1,e 2,e 3,e 4,e 5,e 6,e 7,e 8,e 9,e 10,e 11],[]⟩ e:=by
 obtain ⟨hpr,ha,hb⟩:prP (e 0)/\onL (e 0) ⟨e 6,e 7,e 8⟩/\onL (e 0) ⟨e 9,e 10,e 11⟩:=hp
 have hp:=pr_ok hpr
 have h1:=hp.1
 have h2:=hp.2
 have p0:0<e 0:=by omega
 have la:=ha.lt p0
 have lb:=hb.lt p0
 show tCAddP.says _ ⟨fun ys=>ys=(sumP (e 0) ⟨e 6,e 7,e 8⟩ ⟨e 9,e 10,e 11⟩).l,[]⟩ e
 unfold sumP
 refine ⟨fun h=>?_,fun h=>⟨fun h3=>?_,fun h3=>?_⟩⟩
 ·rw [if_pos h];rfl
 ·rw [if_neg (fun hc=>hc h),if_pos h3];rfl
 rw [if_neg (fun hc=>hc h),if_neg (fun hc=>hc h3)]
 refine ⟨⟨hp,lb.2.2⟩,fun a156 _ a157 _ a158 _ a204 _=>?_⟩
 have v156:e 156=e 9:=a156
 have v157:e 157=(-e 10)%e 0:=a157
 have v158:e 158=e 11:=a158
 have b204:=c_v3 a204
 rw [v156,v157,v158] at b204
 have hop:=opp_iff hpr ha hb h h3
 have key:(e 6=e 9/\e 7=(-e 10)%e 0/\e 8=e 11)↔¬ (e 6≠e 9)/\(e 7≠e 10∨e 7=0):=by
  constructor
  ·intro ⟨k1,k2,k3⟩;exact ⟨fun hc=>hc k1,(hop k1).1 k2⟩
  ·intro ⟨k1,k2⟩
   have k1:e 6=e 9:=by omega
   exact ⟨k1,(hop k1).2 k2,by omega⟩
 rw [key] at b204
 unfold slopeP
 refine ⟨fun h4=>?_,fun h4=>?_⟩
 ·have hz:=b_yes b204 h4
  simp only []
  rw [if_neg hz.1,if_pos hz.2];rfl
 have hnz:=b_no b204 h4
 refine ⟨⟨hp,la.1.2,la.2.2,lb.1.2,lb.2.2⟩,fun a252 _=>?_⟩
 have v252:e 252=slopeR (e 0) (e 6) (e 7) (e 8) (e 9) (e 10) (e 11):=a252
 have hl:∀ {v X:Int},v=X%e 0->v<=e 0:=fun h=>by rw [h];exact Int.le_of_lt (md_lt p0).2
 have sb:∀ {a b:Int},a<=e 0->b<=e 0->(0<e 0/\e 0<9223372036854775808/\a<=e 0/\b<=e 0):=fun ha hb=>⟨p0,by omega,ha,hb⟩
 have l6:e 6<=e 0:=by have:=la.1.2;simp only at this;omega
 have l7:e 7<=e 0:=by have:=la.2.2;simp only at this;omega
 have l9:e 9<=e 0:=by have:=lb.1.2;simp only at this;omega
 refine ⟨hp,fun a493 _=>?_⟩
 have v493:e 493=e 252*e 252%e 0:=a493
 refine ⟨sb (hl v493) l6,fun a637 _=>?_⟩
 have v637:e 637=(e 493-e 6)%e 0:=a637
 refine ⟨sb (hl v637) l9,fun a781 _=>?_⟩
 have v781:e 781=(e 637-e 9)%e 0:=a781
 refine ⟨sb l6 (hl v781),fun a1261 _=>⟨hp,fun a1309 _=>?_⟩⟩
 have v1261:e 1261=(e 6-e 781)%e 0:=a1261
 have v1309:e 1309=e 252*e 1261%e 0:=a1309
 refine ⟨sb (hl v1309) l7,fun a1453 _=>?_⟩
 have v1453:e 1453=(e 1309-e 7)%e 0:=a1453
 show [e 781,e 1453,0]=_
 by_cases hx:e 6≠e 9
 ·have hs:e 252=chordP (e 0) (e 6) (e 7) (e 9) (e 10):=by rw [v252];unfold slopeR;rw [if_neg (fun hc=>hx hc.1)]
  simp only []
  rw [if_pos hx,if_neg (show ¬ (1:Int)=0 by decide),v1453,v1309,v1261,v781,v637,v493,hs];rfl
 ·have hx':e 6=e 9:=by omega
  have hy:¬ (e 7≠e 10∨e 7=0):=fun hc=>hnz ⟨hx,hc⟩
  have hy':e 7=e 10:=by omega
  have hs:e 252=tanP (e 0) (e 6) (e 7):=by rw [v252];unfold slopeR;rw [if_pos ⟨hx',hy',by omega⟩]
  simp only []
  rw [if_neg hx,if_neg hy,if_neg (show ¬ (1:Int)=0 by decide),v1453,v1309,v1261,v781,v637,v493,hs];rfl
theorem law_cTimes (f1 f2 f:FuncId) (e:Nat->Int) (hk:kkHas [.int .u64,.int .u64,.int .u64,.int .u64,.int .u64,.bit,.int .u64,.int .u64,.bit,.int .u64] [e 0,e 1,e 2,e 3,e 4,e 5,e 6,e 7,e 8,e 9]) (hp:(kCTimes f).pre [e 0,e 1,e 2,e 3,e 4,e 5,e 6,e 7,e 8,e 9]):tLTimes.says [kLen64 f1,kCAddP f2] ⟨fun ys=>ys=(kCTimes f).sem [e 0,e 1,e 2,e 3,e 4,e 5,e 6,e 7,e 8,e 9],[]⟩ e:=by
 obtain ⟨hpr,hon⟩:=hp
 have hp:=pr_ok hpr
 have p0:0<e 0:=by have:=hp.1;omega
 obtain ⟨_,_,_,_,_,_,h6,h7,h8,h9,_⟩:=hk
 have u6:=has_u64 h6
 have u7:=has_u64 h7
 have u9:=has_u64 h9
 have ha:(⟨e 6,e 7,e 8⟩:Pt).lt (e 0):=hon.lt p0
 simp only [tLTimes,kLen64,kCAddP,kCTimes,Tree.says,List.getElem?_cons_zero,List.getElem?_cons_succ,List.map,ev_lit,ev_var,ev_limb,D.ev,List.getD_cons_zero,List.getD_cons_succ]
 refine ⟨trivial,fun a10 _ a11 _=>?_⟩
 have b0:=blen_nn (e 9)
 have b1:=blen_le 64 (e 9) u9.1 (by rw [p64'];exact u9.2)
 have c11:e 11=blen (e 9)-1:=by rw [a11,a10];simp only [binE,wr];omega
 refine ⟨TimesI (e 0) ⟨e 6,e 7,e 8⟩ (e 9),fun | [i,_,_,_]=>(i+1).toNat | _=>0,?_,fun e' he hkk hI=>?_⟩
 ·rw [c11]
  refine ⟨by omega,by omega,?_⟩
  rw [Int.sub_add_cancel]
  have h1:e 9/2^(blen (e 9)).toNat=0:=by
   by_cases hc:e 9<2^(blen (e 9)).toNat
   ·exact Int.ediv_eq_zero_of_lt u9.1 hc
   ·have:=blen_gt (blen (e 9)).toNat (e 9) (by omega);omega
  rw [h1];rfl
 ·obtain ⟨i1,i2,i3⟩:TimesI (e 0) ⟨e 6,e 7,e 8⟩ (e 9) [e' 12,e' 13,e' 14,e' 15]:=hI
  simp only [he 0 (by decide),he 1 (by decide),he 2 (by decide),he 3 (by decide),he 4 (by decide),he 5 (by decide),he 6 (by decide),he 7 (by decide),he 8 (by decide),he 9 (by decide)]
  intro a16 _
  have b16:=c_ge a16
  refine ⟨fun hs=>?_,fun hs=>?_⟩
  ·obtain ⟨n,hi⟩:=Int.eq_ofNat_of_zero_le (show 0<=e' 12 by omega)
   rw [hi,show ((n:Int)+1).toNat=n+1 by omega] at i3
   have hq:(0:Int)<2^n:=Int.pow_pos (by decide)
   have hn0:=Int.ediv_nonneg u9.1 (show (0:Int)<=2^n by omega)
   have hn1:e 9/2^n<18446744073709551616:=Int.lt_of_le_of_lt (Int.ediv_le_self _ u9.1) u9.2
   have hok:=mul_ok hpr hon 64 (e 9/2^(n+1)).toNat
   rw [<- i3] at hok
   have hst:=mulP_step (p:=e 0) (a:=⟨e 6,e 7,e 8⟩) (n:=(e 9/2^n).toNat) (by omega)
   have hhalf:(e 9/2^n).toNat/2=(e 9/2^(n+1)).toNat:=by
    rw [Int.pow_succ,<- Int.ediv_ediv_of_nonneg (by omega)];omega
   rw [hhalf,<- i3] at hst
   refine ⟨⟨hpr,hok,hok⟩,fun a17 _ a18 _ a19 _ a20 _ a21 _=>⟨bit_nz a20 (by omega),fun a22 _ a23 _=>?_⟩⟩
   have b23:=c_eq a23
   rw [hi] at a21
   have c21:=shr_n a21 (by omega)
   have c22:=and_1 a22 (by rw [c21];exact ⟨hn0,hn1⟩)
   rw [c21] at c22
   have hd:(⟨e' 17,e' 18,e' 19⟩:Pt)=sumP (e 0) ⟨e' 13,e' 14,e' 15⟩ ⟨e' 13,e' 14,e' 15⟩:=by rw [a17,a18,a19];rfl
   have hdl:=sum_ok hpr hok hok
   rw [<- hd] at hdl hst
   refine ⟨fun hs2=>?_,fun hs2=>?_⟩
   ·refine ⟨⟨hpr,hdl,hon⟩,fun a24 _ a25 _ a26 _ a27 _=>?_⟩
    have h27:e' 27=n-1:=by rw [a27];simp only [binE,wr];omega
    show TimesI (e 0) ⟨e 6,e 7,e 8⟩ (e 9) [e' 27,e' 24,e' 25,e' 26]/\(e' 27+1).toNat<(e' 12+1).toNat
    rw [h27,hi]
    refine ⟨⟨by omega,by omega,?_⟩,by omega⟩
    rw [show ((n:Int)-1+1).toNat=n by omega,hst,if_pos (by omega),a24,a25,a26];rfl
   ·intro a24 _
    have h24:e' 24=n-1:=by rw [a24];simp only [binE,wr];omega
    show TimesI (e 0) ⟨e 6,e 7,e 8⟩ (e 9) [e' 24,e' 17,e' 18,e' 19]/\(e' 24+1).toNat<(e' 12+1).toNat
    rw [h24,hi]
    refine ⟨⟨by omega,by omega,?_⟩,by omega⟩
    rw [show ((n:Int)-1+1).toNat=n by omega,hst,if_neg (by omega)]
  ·have h1:e' 12=-1:=by omega
   rw [h1] at i3
   have h2:(⟨e' 13,e' 14,e' 15⟩:Pt)=mulP (e 0) ⟨e 6,e 7,e 8⟩ 64 (e 9).toNat:=by
    rw [i3];congr 2
    show e 9/1=e 9
    rw [Int.ediv_one]
   rw [<- h2];rfl
theorem law_cIn (f1 f2 f:FuncId) (e:Nat->Int) (hk:kkHas [.int .u64,.int .u64,.int .u64,.int .u64,.int .u64,.bit,.int .u64,.int .u64,.bit] [e 0,e 1,e 2,e 3,e 4,e 5,e 6,e 7,e 8]) (hp:(kCIn f).pre [e 0,e 1,e 2,e 3,e 4,e 5,e 6,e 7,e 8]):tLIn.says [kLOn f1,kCTimes f2] ⟨fun ys=>ys=(kCIn f).sem [e 0,e 1,e 2,e 3,e 4,e 5,e 6,e 7,e 8],[]⟩ e:=by
 have hpr:prP (e 0):=hp
 have hp:=pr_ok hpr
 have p0:=hp.1
 have u6:=(has_u64 hk.2.2.2.2.2.2.1).1
 have u7:=(has_u64 hk.2.2.2.2.2.2.2.1).1
 have h8:0<=e 8/\e 8<=1:=hk.2.2.2.2.2.2.2.2.1
 simp only [tLIn,kLOn,kCTimes,kCIn,Tree.says,List.getElem?_cons_zero,List.getElem?_cons_succ,List.map,ev_lit,ev_var,ev_limb,D.ev,List.getD_cons_zero,List.getD_cons_succ]
 refine ⟨hp,fun a9 _=>?_⟩
 unfold bi at a9 ⊢
 refine ⟨fun h=>?_,fun h=>?_⟩
 ·have hon:onP (e 0) (e 6) (e 7) (e 8):=by
   by_cases hc:onP (e 0) (e 6) (e 7) (e 8)
   ·exact hc
   ·rw [if_neg hc] at a9;omega
  have hb:e 6<e 0/\e 7<e 0:=by
   unfold onP at hon
   split at hon <;> omega
  refine ⟨⟨hpr,hon,⟨u6,u7⟩,(by show e 8=0∨e 8=1;omega)⟩,fun a10 _ a11 _ a12 k12=>?_⟩
  have hz:e 12=(mulP (e 0) ⟨e 6,e 7,e 8⟩ 64 (e 1).toNat).z:=a12
  have k12:0<=e 12/\e 12<=1:=k12
  by_cases hc:(mulP (e 0) ⟨e 6,e 7,e 8⟩ 64 (e 1).toNat).z≠0
  ·rw [if_pos ⟨hon,hc⟩];congr 1;omega
  ·rw [if_neg (fun hh=>hc hh.2)];congr 1;omega
 ·have hon:¬ onP (e 0) (e 6) (e 7) (e 8):=fun hc=>by rw [if_pos hc] at a9;omega
  rw [if_neg (fun hh=>hon hh.1)]
end Go.Sx


namespace Go.Sx
open Go Go.RowKit
set_option maxRecDepth 100000
def tIs:Tree:=(.lett 1 .bit (.cmp .geq (.var 0) (.lit 0))
(.split 1
(.lett 2 .bit (.cmp .leq (.var 0) (.lit 2))
(.ret [.var 2]))
(.ret [.lit 0])))
theorem law_is (f:FuncId) (e:Nat->Int):tIs.says [] ⟨fun ys=>ys=(kIs f).sem [e 0],[]⟩ e:=by
 simp only [tIs,kIs,Tree.says,List.getElem?_cons_zero,List.getElem?_cons_succ,List.map,ev_lit,ev_var,ev_limb,D.ev,List.getD_cons_zero,List.getD_cons_succ]
 intro a1 _
 have b1:=c_ge a1
 refine ⟨fun n=>?_,fun n=>?_⟩
 ·intro a2 _
  have b2:=c_le a2
  by_cases h:isS (e 0)
  ·rw [bi,if_pos h];unfold isS at h;congr 1;omega
  ·rw [bi,if_neg h];unfold isS at h;congr 1;omega
 ·rw [bi,if_neg (by unfold isS;omega)]
theorem fermat_int {p:Nat} (hp:Np.isP p) {a:Int} (h0:0<a) (h1:a<p):a*(a^((p:Int)-2).toNat%p)%p=1:=by
 obtain ⟨x,rfl⟩:=Int.eq_ofNat_of_zero_le (Int.le_of_lt h0)
 have h2:=hp.1
 have hx:¬ p∣x:=fun h=>by have:=Nat.le_of_dvd (by omega) h;omega
 have hf:=Np.fermat hp hx
 rw [show ((p:Int)-2).toNat=p-2 by omega]
 have e:x*(x^(p-2)%p)%p=1:=by rw [Nat.mul_mod_mod,<- Nat.pow_succ',show (p-2).succ=p-1 by omega];exact hf
 have:((x*(x^(p-2)%p)%p:Nat):Int)=1:=by rw [e];rfl
 rw [<- this,Int.natCast_emod,Int.natCast_mul,Int.natCast_emod,Int.natCast_pow]
def pL (s:Int):Int:=if s=1 then 786251 else 1152921504606846223
end Go.Sx
