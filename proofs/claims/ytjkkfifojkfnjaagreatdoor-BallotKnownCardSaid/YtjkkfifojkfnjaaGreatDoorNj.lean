/- Part Nj of the proof. -/
import Derived.Test.YtjkkfifojkfnjaaGreatDoorNi
import Derived.Test.YtjkkfifojkfnjaaGreatDoorNh
import Derived.Lib.Bytealg
set_option linter.unusedVariables false
set_option linter.unusedSimpArgs false

namespace Go.Sx
open Go Go.RowKit
set_option maxRecDepth 100000
def decT (lvl n m:Nat) (k:Nat->A->Tree):Tree :=
 (.lett m (.int .u64) (.bin .sub .u64 (.var n) (.lit 1))
 (.lett (m+1) (.int .u64) (.bin .add .u64 (.var (n+1)) (.var 10))
 (.lett (m+2) .bit (.cmp .geq (.var (m+1)) (.lit 4294967296))
 (.split (m+2) (k (m+3) (.var m)) (.back lvl [.var m,.var (m+1)])))))
def digT (lvl n w:Nat) (q0 r0:A) (k:Nat->A->Tree):Tree :=
 (.loop [q0,r0] [(.int .u64),(.int .u64)] n
 (.lett (n+2) .bit (.cmp .geq (.var n) (.lit 4294967296))
 (.split (n+2) (decT lvl n (n+3) k)
 (.lett (n+3) (.int .u64) (.bin .mul .u64 (.var n) (.var 11))
 (.lett (n+4) (.int .u64) (.bin .mul .u64 (.lit 4294967296) (.var (n+1)))
 (.lett (n+5) (.int .u64) (.bin .add .u64 (.var (n+4)) (.var w))
 (.lett (n+6) .bit (.cmp .gtr (.var (n+3)) (.var (n+5)))
 (.split (n+6) (decT lvl n (n+7) k) (k (n+7) (.var n))))))))))
def k2T (c:Nat) (q1:A) (b:Nat) (q0:A):Tree :=
 (.lett b (.int .u64) (.bin .mul .u64 q1 (.lit 4294967296))
 (.lett (b+1) (.int .u64) (.bin .add .u64 (.var b) q0)
 (.lett (b+2) (.int .u64) (.bin .mul .u64 (.var (c+3)) (.lit 4294967296))
 (.lett (b+3) (.int .u64) (.bin .add .u64 (.var (b+2)) (.var 18))
 (.lett (b+4) (.int .u64) (.bin .mul .u64 q0 (.var 9))
 (.lett (b+5) (.int .u64) (.bin .sub .u64 (.var (b+3)) (.var (b+4)))
 (.lett (b+6) (.int .u64) (.bin .shr .u64 (.var (b+5)) (.var 8))
 (.ret [.var (b+1),.var (b+6)]))))))))
def k1T (b:Nat) (q1:A):Tree :=
 (.lett b (.int .u64) (.bin .mul .u64 (.var 15) (.lit 4294967296))
 (.lett (b+1) (.int .u64) (.bin .add .u64 (.var b) (.var 17))
 (.lett (b+2) (.int .u64) (.bin .mul .u64 q1 (.var 9))
 (.lett (b+3) (.int .u64) (.bin .sub .u64 (.var (b+1)) (.var (b+2)))
 (.lett (b+4) (.int .u64) (.bin .quo .u64 (.var (b+3)) (.var 10))
 (.nz (.var 10)
 (.lett (b+5) (.int .u64) (.bin .mul .u64 (.var (b+4)) (.var 10))
 (.lett (b+6) (.int .u64) (.bin .sub .u64 (.var (b+3)) (.var (b+5)))
 (digT 1 (b+7) 18 (.var (b+4)) (.var (b+6)) (k2T b q1))))))))))
def tDiv64:Tree :=
(.lett 3 .bit (.cmp .eql (.var 2) (.lit 0))
(.split 3
 (.bad 41 "bits.go:520")
 (.lett 4 .bit (.cmp .leq (.var 2) (.var 0))
 (.split 4
  (.bad 41 "bits.go:523")
  (.lett 5 .bit (.cmp .eql (.var 0) (.lit 0))
  (.split 5
  (.lett 102 (.int .u64) (.bin .quo .u64 (.var 1) (.var 2))
  (.nz (.var 2)
  (.lett 246 (.int .u64) (.bin .rem .u64 (.var 1) (.var 2))
  (.nz (.var 2)
  (.ret [.var 102,.var 246])))))
  (.req 0 [.var 2]
  (.lett 6 (.int .i64) (.app 0 0 [.var 2])
  (.lett 7 (.int .i64) (.bin .sub .i64 (.lit 64) (.var 6))
  (.lett 8 (.int .u64) (.conv .u64 (.var 7))
  (.lett 9 (.int .u64) (.bin .shl .u64 (.var 2) (.var 8))
  (.lett 10 (.int .u64) (.bin .shr .u64 (.var 9) (.lit 32))
  (.lett 11 (.int .u64) (.bin .and .u64 (.var 9) (.lit 4294967295))
  (.lett 12 (.int .u64) (.bin .shl .u64 (.var 0) (.var 8))
  (.lett 13 (.int .u64) (.bin .sub .u64 (.lit 64) (.var 8))
  (.lett 14 (.int .u64) (.bin .shr .u64 (.var 1) (.var 13))
  (.lett 15 (.int .u64) (.bin .or .u64 (.var 12) (.var 14))
  (.lett 16 (.int .u64) (.bin .shl .u64 (.var 1) (.var 8))
  (.lett 17 (.int .u64) (.bin .shr .u64 (.var 16) (.lit 32))
  (.lett 18 (.int .u64) (.bin .and .u64 (.var 16) (.lit 4294967295))
  (.lett 19 (.int .u64) (.bin .quo .u64 (.var 15) (.var 10))
  (.nz (.var 10)
  (.lett 20 (.int .u64) (.bin .mul .u64 (.var 19) (.var 10))
  (.lett 21 (.int .u64) (.bin .sub .u64 (.var 15) (.var 20))
   (digT 0 22 17 (.var 19) (.var 21) k1T)))))))))))))))))))))))))
def DigI (X0 Y y1 u:Int):List Int->Prop
 | [q,r]=>q*y1+r=X0/\0<=r/\r<4294967296/\X0*4294967296+u<(q+1)*Y/\0<=q/\q<=4294967297
 | _=>False
theorem dig_div {X Y q:Int} (hY:0<Y) (h1:q*Y<=X) (h2:X<(q+1)*Y):q=X/Y:=by
 have a1:=Int.le_ediv_of_mul_le hY h1
 have a2:=Int.ediv_lt_of_lt_mul hY h2
 omega
theorem digT_says {T:List K} {G:Gl} {e:Nat->Int} {lvl n w:Nat} {q0 r0:A} {k:Nat->A->Tree} {X0 Y:Int} (hn:19<=n) (hwn:w<n) (h10:e 10=Y/4294967296) (h11:e 11=Y%4294967296) (hY:9223372036854775808<=Y/\Y<18446744073709551616)
  (hD:0<=X0/\X0<Y) (hu:0<=e w/\e w<4294967296) (hq:q0.ev e=X0/(Y/4294967296)) (hr:r0.ev e=X0%(Y/4294967296)) (hl:G.stk.length=lvl)
  (hk:∀ (e':Nat->Int) (b q:Nat) (G':Gl),(∀ i,i<n->e' i=e i)->e' q=(X0*4294967296+e w)/Y->G'.goal=G.goal->G'.stk.length=lvl+1->n<=q->q<b->(k b (.var q)).says T G' e'):(digT lvl n w q0 r0 k).says T G e:=by
 refine ⟨DigI X0 Y (Y/4294967296) (e w),fun | [q,_]=>q.toNat | _=>0,?_,fun e' he hkk hI=>?_⟩
 ·show DigI X0 Y (Y/4294967296) (e w) [q0.ev e,r0.ev e]
  rw [hq,hr]
  have hy1:2147483648<=Y/4294967296/\Y/4294967296<4294967296:=by omega
  have hm:=Int.emod_add_mul_ediv X0 (Y/4294967296)
  have hlt:=Int.emod_lt_of_pos X0 (show 0<Y/4294967296 by omega)
  have hnn:=Int.emod_nonneg X0 (show Y/4294967296≠0 by omega)
  have hq0:0<=X0/(Y/4294967296):=Int.ediv_nonneg hD.1 (by omega)
  rw [Int.mul_comm (Y/4294967296)] at hm
  generalize X0/(Y/4294967296)=q at *
  generalize X0%(Y/4294967296)=r at *
  have hYe:Y=Y/4294967296*4294967296+Y%4294967296:=by omega
  have hy0:0<=Y%4294967296/\Y%4294967296<4294967296:=by omega
  generalize Y/4294967296=y1 at *
  generalize Y%4294967296=y0 at *
  have e1:(q+1)*Y=4294967296*(q*y1)+4294967296*y1+(q+1)*y0:=by rw [hYe];grind
  have e2:0<=(q+1)*y0:=Int.mul_nonneg (by omega) hy0.1
  refine ⟨by omega,hnn,by omega,by omega,hq0,?_⟩
  by_cases hc:q<=4294967297
  ·exact hc
  ·exfalso
   have h1:4294967298*y1<=q*y1:=Int.mul_le_mul_of_nonneg_right (by omega) (by omega)
   omega
 ·obtain ⟨i1,i2,i3,i4,i5,i6⟩:DigI X0 Y (Y/4294967296) (e w) [e' n,e' (n+1)]:=hI
  have m10:e' 10=Y/4294967296:=(he 10 (by omega)).trans h10
  have m11:e' 11=Y%4294967296:=(he 11 (by omega)).trans h11
  have mw:e' w=e w:=he w hwn
  have hy1:2147483648<=Y/4294967296/\Y/4294967296<4294967296:=by omega
  have hYe:Y=Y/4294967296*4294967296+Y%4294967296:=by omega
  have hy0:0<=Y%4294967296/\Y%4294967296<4294967296:=by omega
  have dec:∀ m,n+3<=m->X0*4294967296+e w<e' n*Y->1<=e' n ->
    (decT lvl n m k).says T {G with stk:=G.stk++[fun us=>DigI X0 Y (Y/4294967296) (e w) us/\(match us with | [q,_]=>q.toNat | _=>0)<(match seqE e' n 2 with | [q,_]=>q.toNat | _=>0)] } e':=by
   intro m hm hX hq1 a1 _ a2 _ a3 _
   simp only [D.ev,ev_var,ev_lit,binE,wr] at a1 a2
   have b3:=c_ge a3
   simp only [ev_var,ev_lit] at b3
   rw [m10] at a2
   have hq':e' m=e' n-1:=by rw [a1];omega
   have hr':e' (m+1)=e' (n+1)+Y/4294967296:=by rw [a2];omega
   generalize Y/4294967296=y1 at *
   generalize Y%4294967296=y0 at *
   have e1:(e' n-1)*Y=4294967296*(e' n*y1)-4294967296*y1+(e' n-1)*y0:=by rw [hYe];grind
   have e2:(e' n-1)*y1=e' n*y1-y1:=by grind
   refine ⟨fun hs=>?_,fun hs=>?_⟩
   ·refine hk e' (m+3) m _ (fun i hi=>he i hi) ?_ rfl (by simp [hl]) (by omega) (by omega)
    show e' m=_
    rw [hq']
    have e3:(e' n-1)*y0<=4294967296*4294967295:=Int.mul_le_mul (by omega) (by omega) hy0.1 (by omega)
    exact dig_div (by omega) (by omega) (by rw [Int.sub_add_cancel];exact hX)
   ·show match (G.stk++[_])[lvl]? with | some R=>R ([A.var m,A.var (m+1)].map (·.ev e')) | none=>False
    rw [<- hl,List.getElem?_append_right (Nat.le_refl _)]
    simp only [Nat.sub_self,List.getElem?_cons_zero,List.map,ev_var]
    show DigI X0 Y y1 (e w) [e' m,e' (m+1)]/\(e' m).toNat<(e' n).toNat
    rw [hq',hr']
    refine ⟨⟨?_,by omega,by omega,by rw [Int.sub_add_cancel];exact hX,by omega,by omega⟩,by omega⟩
    omega
  intro a2 _
  have b2:=c_ge a2
  simp only [ev_var,ev_lit] at b2
  have eY:e' n*Y=4294967296*(e' n*(Y/4294967296))+e' n*(Y%4294967296):=by
   generalize Y/4294967296=y1 at *
   generalize Y%4294967296=y0 at *
   rw [hYe];grind
  refine ⟨fun hs=>?_,fun hs=>?_⟩
  ·refine dec (n+3) (by omega) ?_ (by omega)
   have:4294967296*Y<=e' n*Y:=Int.mul_le_mul_of_nonneg_right (by omega) (by omega)
   omega
  ·intro a3 _ a4 _ a5 _ a6 _
   simp only [D.ev,ev_var,ev_lit,binE,wr] at a3 a4 a5
   have b6:=c_gt a6
   simp only [ev_var,ev_lit] at b6
   rw [m11] at a3
   rw [mw] at a5
   have p0:0<=e' n*(Y%4294967296)/\e' n*(Y%4294967296)<=4294967295*4294967295:=⟨Int.mul_nonneg i5 hy0.1,Int.mul_le_mul (by omega) (by omega) hy0.1 (by omega)⟩
   have c3:e' (n+3)=e' n*(Y%4294967296):=by rw [a3];exact Int.emod_eq_of_lt p0.1 (by omega)
   have c5:e' (n+5)=4294967296*e' (n+1)+e w:=by rw [a5,a4];omega
   refine ⟨fun hs2=>?_,fun hs2=>?_⟩
   ·refine dec (n+7) (by omega) (by omega) ?_
    by_cases hc:1<=e' n
    ·exact hc
    ·exfalso
     have:e' n=0:=by omega
     rw [this] at c3
     omega
   ·refine hk e' (n+7) n _ (fun i hi=>he i hi) ?_ rfl (by simp [hl]) (by omega) (by omega)
    show e' n=_
    exact dig_div (by omega) (by omega) i4
theorem pow_split {s:Nat} (hs:s<=64):(2:Int)^s*2^(64-s)=18446744073709551616:=by
 rw [<- Int.pow_add,show s+(64-s)=64 by omega];decide +kernel
set_option maxHeartbeats 4000000 in
theorem law_div64 (f1 f:FuncId) (e:Nat->Int) (hk:kkHas [.int .u64,.int .u64,.int .u64] [e 0,e 1,e 2]) (hp:(kDiv64 f).pre [e 0,e 1,e 2]):tDiv64.says [kLen64 f1] ⟨fun ys=>ys=(kDiv64 f).sem [e 0,e 1,e 2],[]⟩ e:=by
 obtain ⟨h0,h1,h2,_⟩:=hk
 have u0:=has_u64 h0
 have u1:=has_u64 h1
 have u2:=has_u64 h2
 have hlt:e 0<e 2:=hp
 unfold tDiv64
 intro a3 _
 have b3:=c_eq a3
 simp only [ev_var,ev_lit] at b3
 refine ⟨fun n=>by omega,fun n=>?_⟩
 intro a4 _
 have b4:=c_le a4
 simp only [ev_var,ev_lit] at b4
 refine ⟨fun n=>by omega,fun n=>?_⟩
 intro a5 _
 have b5:=c_eq a5
 simp only [ev_var,ev_lit] at b5
 refine ⟨fun n=>?_,fun n=>?_⟩
 ·intro a6 _
  refine ⟨by show e 2≠0;omega,?_⟩
  intro a7 _
  refine ⟨by show e 2≠0;omega,?_⟩
  simp only [D.ev,ev_var,binE,wr] at a6 a7
  rw [Int.tdiv_eq_ediv_of_nonneg u1.1] at a6
  rw [Int.tmod_eq_emod_of_nonneg u1.1] at a7
  have hle:=Int.ediv_le_self (e 2) u1.1
  have hnn:=Int.ediv_nonneg u1.1 u2.1
  show [e 102,e 246]=[(e 0*18446744073709551616+e 1)/e 2,(e 0*18446744073709551616+e 1)%e 2]
  rw [show e 0=0 by omega,Int.zero_mul,Int.zero_add,a6,a7,Int.emod_eq_of_lt hnn (by omega)]
 ·have hy:1<=e 2:=by omega
  refine ⟨trivial,?_⟩
  intro a6 _ a7 _ a8 _ a9 _ a10 _ a11 _ a12 _ a13 _ a14 _ a15 _ a16 _ a17 _ a18 _ a19 _
  have c6:e 6=blen (e 2):=a6
  have hb0:1<=blen (e 2):=by rw [blen_1 hy];have:=blen_nn (e 2/2);omega
  have hb1:blen (e 2)<=64:=blen_le 64 _ u2.1 (by rw [p64'];exact u2.2)
  have c7:e 7=64-blen (e 2):=by rw [a7];simp only [D.ev,ev_var,ev_lit,binE,wr];omega
  have c8:e 8=64-blen (e 2):=by rw [a8];simp only [D.ev,ev_var,wr];omega
  obtain ⟨s,hs⟩:=Int.eq_ofNat_of_zero_le (show 0<=e 8 by omega)
  have hs64:s<=63:=by omega
  have hP:=pow_split (s:=s) (by omega)
  have hp1:(0:Int)<2^s:=Int.pow_pos (by decide)
  have hp2:(0:Int)<2^(64-s):=Int.pow_pos (by decide)
  have hyu:e 2<2^(64-s):=by
   by_cases hc:e 2<2^(64-s)
   ·exact hc
   ·have:=blen_gt (64-s) (e 2) (by omega);omega
  have hyl:(2:Int)^(63-s)<=e 2:=by
   by_cases hc:(2:Int)^(63-s)<=e 2
   ·exact hc
   ·have:=blen_le (63-s) (e 2) u2.1 (by omega);omega
  have hP2:(2:Int)^s*2^(63-s)=9223372036854775808:=by
   rw [<- Int.pow_add,show s+(63-s)=63 by omega];decide +kernel
  have hYu:e 2*2^s<18446744073709551616:=by
   rw [<- hP,Int.mul_comm];exact Int.mul_lt_mul_of_pos_left hyu hp1
  have hYl:9223372036854775808<=e 2*2^s:=by
   rw [<- hP2,Int.mul_comm (e 2)];exact Int.mul_le_mul_of_nonneg_left hyl (by omega)
  have hshl:∀ {v x:Int},v=binE .shl .u64 x (e 8)->v=x*2^s%18446744073709551616:=by
   intro v x h
   rw [h,hs];simp only [binE]
   rw [show min ((s:Int).toNat) IntKind.u64.bits=s by show min s 64=s;omega,Int.natCast_pow];rfl
  have c9:e 9=e 2*2^s:=by
   have h:=hshl a9
   simp only [ev_var] at h
   rw [h];exact Int.emod_eq_of_lt (by omega) hYu
  have c10:e 10=e 9/4294967296:=shr_e a10
  have c11:e 11=e 9%4294967296:=and_32 a11 (by constructor <;> omega)
  have hhi:e 0*2^s<=e 2*2^s-2^s:=by
   have:=Int.mul_le_mul_of_nonneg_right (show e 0<=e 2-1 by omega) (show (0:Int)<=2^s by omega)
   rw [Int.sub_mul,Int.one_mul] at this;exact this
  have hhi0:0<=e 0*2^s:=Int.mul_nonneg u0.1 (by omega)
  have c12:e 12=e 0*2^s:=by
   have h:=hshl a12
   simp only [ev_var] at h
   rw [h];exact Int.emod_eq_of_lt hhi0 (by omega)
  have c13:e 13=((64-s:Nat):Int):=by rw [a13];simp only [D.ev,ev_var,ev_lit,binE,wr];rw [hs];omega
  have c14:e 14=e 1/2^(64-s):=by
   rw [a14];simp only [D.ev,ev_var,binE]
   rw [c13,show min (((64-s:Nat):Int).toNat) IntKind.u64.bits=64-s by show min (64-s) 64=_;omega,Int.natCast_pow]
   exact Int.fdiv_eq_ediv_of_nonneg _ (by exact Int.le_of_lt hp2)
  have hlo:e 1/2^(64-s)<2^s:=Int.ediv_lt_of_lt_mul hp2 (by rw [hP];exact u1.2)
  have hlo0:0<=e 1/2^(64-s):=Int.ediv_nonneg u1.1 (by omega)
  have c15:e 15=e 0*2^s+e 1/2^(64-s):=by
   rw [<- c12,<- c14]
   exact or_dis (k:=s) (q:=e 0) a15 (by rw [c12,Int.natCast_pow];rfl) u0.1 (by rw [c14,Int.natCast_pow];exact ⟨hlo0,hlo⟩) (by rw [c12,c14];omega)
  have c16:e 16=e 1*2^s%18446744073709551616:=hshl a16
  have c17:e 17=e 16/4294967296:=shr_e a17
  have c18:e 18=e 16%4294967296:=and_32 a18 (by constructor <;> omega)
  have htot:(e 0*18446744073709551616+e 1)*2^s=e 15*18446744073709551616+e 16:=by
   have h1:e 1*2^s=e 1/2^(64-s)*18446744073709551616+e 1%2^(64-s)*2^s:=by
    have hm:=Int.emod_add_mul_ediv (e 1) (2^(64-s))
    conv=>lhs;rw [<- hm]
    rw [<- hP];grind
   have h2:0<=e 1%2^(64-s)*2^s:=Int.mul_nonneg (Int.emod_nonneg _ (by omega)) (by omega)
   have h3:e 1%2^(64-s)*2^s<18446744073709551616:=by
    rw [<- hP,Int.mul_comm];exact Int.mul_lt_mul_of_pos_left (Int.emod_lt_of_pos _ hp2) hp1
   have h4:e 16=e 1%2^(64-s)*2^s:=by
    rw [c16];exact md_eq (e 1/2^(64-s)) (by rw [h1];omega) h2 h3
   rw [c15,h4,Int.add_mul,h1,Int.add_mul]
   rw [Int.mul_right_comm];omega
  have hD:0<=e 15/\e 15<e 9:=by omega
  have hy1:2147483648<=e 10:=by omega
  simp only [D.ev,ev_var,binE,wr] at a19
  rw [Int.tdiv_eq_ediv_of_nonneg hD.1] at a19
  have hqn:0<=e 15/e 10:=Int.ediv_nonneg hD.1 (by omega)
  have hql:e 15/e 10<=e 15:=Int.ediv_le_self _ hD.1
  have c19:e 19=e 15/e 10:=by rw [a19];exact Int.emod_eq_of_lt hqn (by omega)
  have hmm:=Int.emod_add_mul_ediv (e 15) (e 10)
  have hml:=Int.emod_lt_of_pos (e 15) (show 0<e 10 by omega)
  have hmn:=Int.emod_nonneg (e 15) (show e 10≠0 by omega)
  have hpn:0<=e 10*(e 15/e 10):=Int.mul_nonneg (by omega) hqn
  refine ⟨by show e 10≠0;omega,?_⟩
  intro a20 _ a21 _
  simp only [D.ev,ev_var,binE,wr] at a20 a21
  have c20:e 20=e 10*(e 15/e 10):=by rw [a20,c19,Int.mul_comm];exact Int.emod_eq_of_lt (by omega) (by omega)
  have c21:e 21=e 15%e 10:=by rw [a21,c20];rw [show e 15-e 10*(e 15/e 10)=e 15%e 10 by omega];exact Int.emod_eq_of_lt hmn (by omega)
  clear a6 a7 a8 a9 a10 a11 a12 a13 a14 a15 a16 a17 a18 a19 a20 a21 hshl
  rw [<- c9] at hYu hYl
  rw [c10] at c19 c21
  refine digT_says (T:=[kLen64 f1]) (X0:=e 15) (Y:=e 9) (by decide) (by decide) c10 c11 ⟨hYl,hYu⟩ hD (by omega) c19 c21 rfl fun e1 b qa G1 he1 hqa hG1 hS1 hqa0 hb=>?_
  have g:∀ i,i<22->e1 i=e i:=he1
  have hX0:0<=e 15*4294967296+e 17:=by omega
  have hQ1:0<=e1 qa:=by rw [hqa];exact Int.ediv_nonneg hX0 (by omega)
  have hQ1l:e1 qa<4294967296:=by rw [hqa];exact Int.ediv_lt_of_lt_mul (by omega) (by omega)
  have hR1:=Int.emod_add_mul_ediv (e 15*4294967296+e 17) (e 9)
  have hR1l:=Int.emod_lt_of_pos (e 15*4294967296+e 17) (show 0<e 9 by omega)
  have hR1n:=Int.emod_nonneg (e 15*4294967296+e 17) (show e 9≠0 by omega)
  rw [<- hqa] at hR1
  generalize (e 15*4294967296+e 17)%e 9=R1 at *
  unfold k1T
  intro a1 _ a2 _ a3 _ a4 _ a5 _
  simp only [D.ev,ev_var,ev_lit,binE,wr] at a1 a2 a3 a4 a5
  rw [g 15 (by decide)] at a1
  rw [g 17 (by decide)] at a2
  rw [g 9 (by decide)] at a3
  rw [Int.mul_comm (e 9)] at hR1
  generalize hQY:e1 qa*e 9=QY at *
  have d4:e1 (b+3)=R1:=by rw [a4,a3,a2,a1];omega
  rw [d4,Int.tdiv_eq_ediv_of_nonneg hR1n,g 10 (by decide)] at a5
  have hy1':0<e 10:=by omega
  have hrn:0<=R1/e 10:=Int.ediv_nonneg hR1n (by omega)
  have hrl:R1/e 10<=R1:=Int.ediv_le_self _ hR1n
  have d5:e1 (b+4)=R1/e 10:=by rw [a5];exact Int.emod_eq_of_lt hrn (by omega)
  refine ⟨by show e1 10≠0;rw [g 10 (by decide)];omega,?_⟩
  intro a6 _ a7 _
  simp only [D.ev,ev_var,ev_lit,binE,wr] at a6 a7
  rw [g 10 (by decide),d5] at a6
  have nmm:=Int.emod_add_mul_ediv R1 (e 10)
  have nml:=Int.emod_lt_of_pos R1 hy1'
  have nmn:=Int.emod_nonneg R1 (show e 10≠0 by omega)
  have npn:0<=e 10*(R1/e 10):=Int.mul_nonneg (by omega) hrn
  have d6:e1 (b+5)=e 10*(R1/e 10):=by rw [a6,Int.mul_comm];exact Int.emod_eq_of_lt (by omega) (by omega)
  have d7:e1 (b+6)=R1%e 10:=by rw [a7,d4,d6];rw [show R1-e 10*(R1/e 10)=R1%e 10 by omega];exact Int.emod_eq_of_lt nmn (by omega)
  refine digT_says (X0:=R1) (Y:=e 9) (by omega) (by omega) (by rw [g 10 (by decide)];exact c10) (by rw [g 11 (by decide)];exact c11) ⟨hYl,hYu⟩ ⟨hR1n,hR1l⟩ (by rw [g 18 (by decide)];omega) (by rw [<- c10];exact d5) (by rw [<- c10];exact d7) hS1 fun e2 b2 qb G2 he2 hqb hG2 hS2 hqb0 hb2=>?_
  have gg:∀ i,i<22->e2 i=e i:=fun i hi=>(he2 i (by omega)).trans (g i hi)
  rw [g 18 (by decide)] at hqb
  have hX1:0<=R1*4294967296+e 18:=by omega
  have hQ2:0<=e2 qb:=by rw [hqb];exact Int.ediv_nonneg hX1 (by omega)
  have hQ2l:e2 qb<4294967296:=by rw [hqb];exact Int.ediv_lt_of_lt_mul (by omega) (by omega)
  have hR2:=Int.emod_add_mul_ediv (R1*4294967296+e 18) (e 9)
  have hR2l:=Int.emod_lt_of_pos (R1*4294967296+e 18) (show 0<e 9 by omega)
  have hR2n:=Int.emod_nonneg (R1*4294967296+e 18) (show e 9≠0 by omega)
  rw [<- hqb] at hR2
  generalize (R1*4294967296+e 18)%e 9=R2 at *
  have hqe:e2 qa=e1 qa:=he2 qa (by omega)
  unfold k2T
  intro f1 _ f2 _ f3 _ f4 _ f5 _ f6 _ f7 _
  simp only [D.ev,ev_var,ev_lit,binE,wr] at f1 f2 f3 f4 f5 f6 f7
  rw [hqe] at f1
  rw [he2 (b+3) (by omega),d4] at f3
  rw [gg 18 (by decide)] at f4
  rw [gg 9 (by decide),Int.mul_comm] at f5
  have hXt:(e 0*18446744073709551616+e 1)*2^s=(e1 qa*4294967296+e2 qb)*e 9+R2:=by
   rw [htot]
   have h16:e 16=e 17*4294967296+e 18:=by omega
   rw [Int.add_mul,Int.mul_right_comm,hQY,Int.mul_comm (e2 qb)]
   omega
  generalize e 9*e2 qb=QZ at *
  have d6':e2 (b2+5)=R2:=by rw [f6,f5,f4,f3];omega
  have d2':e2 (b2+1)=e1 qa*4294967296+e2 qb:=by rw [f2,f1];omega
  rw [d6',gg 8 (by decide),hs,show min ((s:Int).toNat) IntKind.u64.bits=s by show min s 64=s;omega,Int.natCast_pow] at f7
  rw [Int.fdiv_eq_ediv_of_nonneg _ (by exact Int.le_of_lt hp1)] at f7
  show G2.goal [e2 (b2+1),e2 (b2+6)]
  rw [hG2,hG1]
  show [e2 (b2+1),e2 (b2+6)]=[(e 0*18446744073709551616+e 1)/e 2,(e 0*18446744073709551616+e 1)%e 2]
  rw [d2',f7]
  rw [c9] at hXt
  generalize e 0*18446744073709551616+e 1=X at *
  generalize e1 qa*4294967296+e2 qb=q at *
  have hr:R2=2^s*(X-q*e 2):=by rw [Int.mul_sub,Int.mul_comm _ X,hXt];grind
  have hr0:0<=X-q*e 2:=by
   by_cases hc:0<=X-q*e 2
   ·exact hc
   ·have:=Int.mul_neg_of_pos_of_neg hp1 (show X-q*e 2<0 by omega);omega
  have hr1:X-q*e 2<e 2:=by
   have:2^s*(X-q*e 2)<2^s*e 2:=by rw [<- hr,Int.mul_comm _ (e 2),<- c9];exact hR2l
   exact Int.lt_of_mul_lt_mul_left this (Int.le_of_lt hp1)
  have hq:X/e 2=q:=(dig_div (by omega) (by omega) (by rw [Int.add_mul];omega)).symm
  have hm:X%e 2=X-q*e 2:=md_eq q (by rw [Int.mul_comm q];omega) hr0 hr1
  rw [hq,hm]
  congr 2
  rw [hr]
  exact Int.mul_ediv_cancel_left _ (by exact Int.ne_of_gt hp1)
def tRem64:Tree:=(.lett 3 (.int .u64) (.bin .rem .u64 (.var 0) (.var 2))
(.nz (.var 2)
(.req 0 [.var 3,.var 1,.var 2]
(.lett 4 (.int .u64) (.app 0 0 [.var 3,.var 1,.var 2])
(.lett 5 (.int .u64) (.app 0 1 [.var 3,.var 1,.var 2])
(.ret [.var 5]))))))
theorem law_rem64 (f1 f:FuncId) (e:Nat->Int) (hk:kkHas [.int .u64,.int .u64,.int .u64] [e 0,e 1,e 2]) (hp:(kRem64 f).pre [e 0,e 1,e 2]):tRem64.says [kDiv64 f1] ⟨fun ys=>ys=(kRem64 f).sem [e 0,e 1,e 2],[]⟩ e:=by
 obtain ⟨h0,h1,h2,_⟩:=hk
 have u0:=has_u64 h0
 have hy:0<e 2:=hp
 simp only [tRem64,kDiv64,kRem64,Tree.says,List.getElem?_cons_zero,List.getElem?_cons_succ,List.map,ev_lit,ev_var,ev_limb,D.ev,List.getD_cons_zero,List.getD_cons_succ]
 intro a3 _
 have c3:e 3=e 0%e 2:=by rw [a3];simp only [binE];exact Int.tmod_eq_emod_of_nonneg u0.1
 refine ⟨by omega,by rw [c3];exact Int.emod_lt_of_pos _ hy,fun a4 _ a5 _=>?_⟩
 rw [a5,c3]
 congr 1
 obtain ⟨z,hz⟩:=md_of (x:=e 0) (n:=e 2)
 exact md (z*18446744073709551616) (by rw [hz];grind)
end Go.Sx


namespace Go.Sx
open Go Go.RowKit
set_option maxRecDepth 100000
theorem pow_bit (a:Int) (x:Int) (hx:0<=x) (i:Nat):a^(x/2^i).toNat=a^(x/2^(i+1)).toNat*a^(x/2^(i+1)).toNat*(if x/2^i%2=1 then a else 1):=by
 have hp:(0:Int)<2^i:=Int.pow_pos (by decide)
 have h1:x/2^(i+1)=x/2^i/2:=by rw [Int.pow_succ,Int.ediv_ediv_of_nonneg (by omega)]
 have h0:=Int.ediv_nonneg hx (show (0:Int)<=2^i by omega)
 rw [h1,<- Int.pow_add]
 generalize x/2^i=y at *
 split
 ·rw [show y.toNat=((y/2).toNat+(y/2).toNat)+1 by omega,Int.pow_succ]
 ·rw [Int.mul_one];congr 1;omega
theorem md_mul {a b n:Int}:a%n*(b%n)%n=a*b%n:=by rw [<- Int.mul_emod]
def PowI (n a x:Int):List Int->Prop
 | [i,o]=>-1<=i/\i<=383/\o=a^(x/2^(i+1).toNat).toNat%n
 | _=>False
theorem pow_step0 {n a x o o1:Int} {i:Nat} (hx:0<=x) (ho:o=a^(x/2^(i+1)).toNat%n) (h1:o1=o*o%n) (hb:x/2^i%2=0):o1=a^(x/2^i).toNat%n:=by
 rw [pow_bit a x hx i,if_neg (by omega),Int.mul_one,h1,ho,md_mul]
theorem pow_step1 {n a x o o1 o2:Int} {i:Nat} (hx:0<=x) (ho:o=a^(x/2^(i+1)).toNat%n) (h1:o1=o*o%n) (h2:o2=o1*a%n) (hb:x/2^i%2=1):o2=a^(x/2^i).toNat%n:=by
 rw [pow_bit a x hx i,if_pos hb,h2,h1,ho,md_mul]
 obtain ⟨z,hz⟩:=md_of (x:=a^(x/2^(i+1)).toNat*a^(x/2^(i+1)).toNat) (n:=n)
 rw [hz]
 exact md (z*a) (by grind)
theorem b_yes {v:Int} {p:Prop} (b:(v=1/\p)∨(v=0/\¬ p)) (h:v≠0):p:=by
 rcases b with ⟨_,h1⟩ | ⟨h1,_⟩
 ·exact h1
 ·exact absurd h1 h
theorem b_no {v:Int} {p:Prop} (b:(v=1/\p)∨(v=0/\¬ p)) (h:v=0):¬ p:=by
 rcases b with ⟨h1,_⟩ | ⟨_,h1⟩
 ·exact absurd (h1.symm.trans h) (by decide)
 ·exact h1
end Go.Sx

namespace Go.Sx
open Go Go.RowKit
set_option maxRecDepth 100000
open Classical in
noncomputable def bj (p:Prop):Int:=if p then 1 else 0
theorem bj_t {p:Prop} (h:p):bj p=1:=if_pos h
theorem bj_f {p:Prop} (h:¬ p):bj p=0:=if_neg h
end Go.Sx








namespace Go.Sx
open Go Go.RowKit
abbrev oPt:Oh:=.agg [.int .u64,.int .u64,.bool]
abbrev iPt:Sh:=.agg [.int .u64,.int .u64,.bool]
def pOk (p:Int):Prop:=3<=p/\p<4611686018427387904
def kLAdd (f:FuncId):K:={fn:=f,ext:=false,ins:=[iC,iU,iU],outs:=[oU],pre:=fun | [p,_,_,_,_,_,a,b]=>pOk p/\a<p/\b<p | _=>False,sem:=fun | [p,_,_,_,_,_,a,b]=>[(a+b)%p] | _=>[] }
def kLSub (f:FuncId):K:={fn:=f,ext:=false,ins:=[iC,iU,iU],outs:=[oU],pre:=fun | [p,_,_,_,_,_,a,b]=>pOk p/\a<p/\b<p | _=>False,sem:=fun | [p,_,_,_,_,_,a,b]=>[(a-b)%p] | _=>[] }
def kLMul (f:FuncId):K:={fn:=f,ext:=false,ins:=[iC,iU,iU],outs:=[oU],pre:=fun | [p,_,_,_,_,_,_,_]=>pOk p | _=>False,sem:=fun | [p,_,_,_,_,_,a,b]=>[a*b%p] | _=>[] }
def pwM (p a n:Int):Int:=((a.toNat^n.toNat%p.toNat:Nat):Int)
def kLPow (f:FuncId):K:={fn:=f,ext:=false,ins:=[iC,iU,iU],outs:=[oU],pre:=fun | [p,_,_,_,_,_,_,_]=>pOk p | _=>False,sem:=fun | [p,_,_,_,_,_,a,n]=>[pwM p a n] | _=>[] }
def invP (p a:Int):Int:=pwM p a (p-2)
def kLInv (f:FuncId):K:={fn:=f,ext:=false,ins:=[iC,iU],outs:=[oU],pre:=fun | [p,_,_,_,_,_,_]=>pOk p | _=>False,sem:=fun | [p,_,_,_,_,_,a]=>[invP p a] | _=>[] }
def rightP (p x:Int):Int:=(x*x%p*x%p+x)%p
def kLRight (f:FuncId):K:={fn:=f,ext:=false,ins:=[iC,iU],outs:=[oU],pre:=fun | [p,_,_,_,_,_,x]=>pOk p/\x<p | _=>False,sem:=fun | [p,_,_,_,_,_,x]=>[rightP p x] | _=>[] }
def onP (p x y z:Int):Prop:=if z=0 then x<p/\y<p/\y*y%p=rightP p x else x=0/\y=0
instance (p x y z:Int):Decidable (onP p x y z):=by unfold onP;exact inferInstance
def kLOn (f:FuncId):K:={fn:=f,ext:=false,ins:=[iC,iPt],outs:=[oB],pre:=fun | [p,_,_,_,_,_,_,_,_]=>pOk p | _=>False,sem:=fun | [p,_,_,_,_,_,x,y,z]=>[bi (onP p x y z)] | _=>[] }
def slopeP (p x y x' y':Int):Int×Int :=
 if x≠x' then ((y'-y)%p*invP p ((x'-x)%p)%p,1)
 else if y≠y'∨y=0 then (0,0)
 else ((((x*x%p+x*x%p)%p+x*x%p)%p+1)%p*invP p ((y+y)%p)%p,1)
def kLSlope (f:FuncId):K:={fn:=f,ext:=false,ins:=[iC,iPt,iPt],outs:=[oU,oB],pre:=fun | [p,_,_,_,_,_,x,y,_,x',y',_]=>pOk p/\x<p/\y<p/\x'<p/\y'<p | _=>False,sem:=fun | [p,_,_,_,_,_,x,y,_,x',y',_]=>[(slopeP p x y x' y').1,(slopeP p x y x' y').2] | _=>[] }
structure Pt where
 x:Int
 y:Int
 z:Int
 deriving DecidableEq
def sumP (p:Int) (a b:Pt):Pt :=
 if a.z≠0 then b else if b.z≠0 then a else
 let s:=slopeP p a.x a.y b.x b.y
 if s.2=0 then ⟨0,0,1⟩ else
 let x:=((s.1*s.1%p-a.x)%p-b.x)%p
 ⟨x,(s.1*((a.x-x)%p)%p-a.y)%p,0⟩
def Pt.l (a:Pt):List Int:=[a.x,a.y,a.z]
def Pt.lt (a:Pt) (p:Int):Prop:=(0<=a.x/\a.x<p)/\(0<=a.y/\a.y<p)
def kLSum (f:FuncId):K:={fn:=f,ext:=false,ins:=[iC,iPt,iPt],outs:=[oPt],pre:=fun | [p,_,_,_,_,_,x,y,_,x',y',_]=>pOk p/\x<p/\y<p/\x'<p/\y'<p | _=>False,sem:=fun | [p,_,_,_,_,_,x,y,z,x',y',z']=>(sumP p ⟨x,y,z⟩ ⟨x',y',z'⟩).l | _=>[] }
def mulP (p:Int) (a:Pt):Nat->Nat->Pt
 | 0,_=>⟨0,0,1⟩
 | k+1,n=>if n=0 then ⟨0,0,1⟩ else
  let h:=mulP p a k (n/2)
  let d:=sumP p h h
  if n%2=1 then sumP p d a else d
def kLTimes (f:FuncId):K:={fn:=f,ext:=false,ins:=[iC,iPt,iU],outs:=[oPt],pre:=fun | [p,_,_,_,_,_,x,y,_,_]=>pOk p/\x<p/\y<p | _=>False,sem:=fun | [p,_,_,_,_,_,x,y,z,n]=>(mulP p ⟨x,y,z⟩ 64 n.toNat).l | _=>[] }
def inP (p r x y z:Int):Prop:=onP p x y z/\(mulP p ⟨x,y,z⟩ 64 r.toNat).z≠0
instance (p r x y z:Int):Decidable (inP p r x y z):=by unfold inP;exact inferInstance
def kLIn (f:FuncId):K:={fn:=f,ext:=false,ins:=[iC,iPt],outs:=[oB],pre:=fun | [p,_,_,_,_,_,_,_,_]=>pOk p | _=>False,sem:=fun | [p,r,_,_,_,_,x,y,z]=>[bi (inP p r x y z)] | _=>[] }
set_option maxRecDepth 100000
theorem pwM_eq {p a n:Int} (hp:0<p) (ha:0<=a):pwM p a n=a^n.toNat%p:=by
 unfold pwM
 rw [Int.natCast_emod,Int.natCast_pow,Int.toNat_of_nonneg ha,Int.toNat_of_nonneg (by omega)]
def tLAdd:Tree:=(.lett 8 (.int .u64) (.bin .add .u64 (.var 6) (.var 7))
(.lett 9 (.int .u64) (.bin .rem .u64 (.var 8) (.var 0))
(.nz (.var 0)
(.ret [.var 9]))))
theorem law_lAdd (f:FuncId) (e:Nat->Int) (hk:kkHas [.int .u64,.int .u64,.int .u64,.int .u64,.int .u64,.bit,.int .u64,.int .u64] [e 0,e 1,e 2,e 3,e 4,e 5,e 6,e 7]) (hp:(kLAdd f).pre [e 0,e 1,e 2,e 3,e 4,e 5,e 6,e 7]):tLAdd.says [] ⟨fun ys=>ys=(kLAdd f).sem [e 0,e 1,e 2,e 3,e 4,e 5,e 6,e 7],[]⟩ e:=by
 obtain ⟨⟨p0,p1⟩,p2,p3⟩:=hp
 obtain ⟨_,_,_,_,_,_,h6,h7,_⟩:=hk
 have u6:=has_u64 h6
 have u7:=has_u64 h7
 simp only [tLAdd,kLAdd,Tree.says,List.getElem?_cons_zero,List.getElem?_cons_succ,List.map,ev_lit,ev_var,ev_limb,D.ev,List.getD_cons_zero,List.getD_cons_succ]
 intro a8 _ a9 _
 have c8:e 8=e 6+e 7:=by rw [a8];simp only [binE,wr];omega
 refine ⟨by omega,?_⟩
 rw [a9,c8];simp only [binE];rw [Int.tmod_eq_emod_of_nonneg (by omega)]
def tLSub:Tree:=(.lett 8 (.int .u64) (.bin .add .u64 (.var 6) (.var 0))
(.lett 9 (.int .u64) (.bin .sub .u64 (.var 8) (.var 7))
(.lett 10 (.int .u64) (.bin .rem .u64 (.var 9) (.var 0))
(.nz (.var 0)
(.ret [.var 10])))))
theorem law_lSub (f:FuncId) (e:Nat->Int) (hk:kkHas [.int .u64,.int .u64,.int .u64,.int .u64,.int .u64,.bit,.int .u64,.int .u64] [e 0,e 1,e 2,e 3,e 4,e 5,e 6,e 7]) (hp:(kLSub f).pre [e 0,e 1,e 2,e 3,e 4,e 5,e 6,e 7]):tLSub.says [] ⟨fun ys=>ys=(kLSub f).sem [e 0,e 1,e 2,e 3,e 4,e 5,e 6,e 7],[]⟩ e:=by
 obtain ⟨⟨p0,p1⟩,p2,p3⟩:=hp
 obtain ⟨_,_,_,_,_,_,h6,h7,_⟩:=hk
 have u6:=has_u64 h6
 have u7:=has_u64 h7
 simp only [tLSub,kLSub,Tree.says,List.getElem?_cons_zero,List.getElem?_cons_succ,List.map,ev_lit,ev_var,ev_limb,D.ev,List.getD_cons_zero,List.getD_cons_succ]
 intro a8 _ a9 _ a10 _
 have c8:e 8=e 6+e 0:=by rw [a8];simp only [binE,wr];omega
 have c9:e 9=e 6+e 0-e 7:=by rw [a9,c8];simp only [binE,wr];omega
 refine ⟨by omega,?_⟩
 rw [a10,c9];simp only [binE];rw [Int.tmod_eq_emod_of_nonneg (by omega)]
 congr 1
 exact md 1 (by omega)
def tLMul:Tree:=(.req 0 [.var 6,.var 7]
(.lett 8 (.int .u64) (.app 0 0 [.var 6,.var 7])
(.lett 9 (.int .u64) (.app 0 1 [.var 6,.var 7])
(.req 1 [.var 8,.var 9,.var 0]
(.lett 10 (.int .u64) (.app 1 0 [.var 8,.var 9,.var 0])
(.ret [.var 10]))))))
theorem law_lMul (f1 f2 f:FuncId) (e:Nat->Int) (hp:(kLMul f).pre [e 0,e 1,e 2,e 3,e 4,e 5,e 6,e 7]):tLMul.says [kMul64 f1,kRem64 f2] ⟨fun ys=>ys=(kLMul f).sem [e 0,e 1,e 2,e 3,e 4,e 5,e 6,e 7],[]⟩ e:=by
 have p0:0<e 0:=by have:=hp.1;omega
 simp only [tLMul,kMul64,kRem64,kLMul,Tree.says,List.getElem?_cons_zero,List.getElem?_cons_succ,List.map,ev_lit,ev_var,ev_limb,D.ev,List.getD_cons_zero,List.getD_cons_succ]
 refine ⟨trivial,fun a1 _ a2 _=>⟨p0,fun a3 _=>?_⟩⟩
 rw [a3,a1,a2]
 congr 2
 generalize e 6*e 7=x
 omega
theorem shr_n {v x:Int} {n:Nat} (h:v=binE .shr .u64 x n) (hn:n<=63):v=x/2^n:=by
 rw [h]
 simp only [binE,Int.toNat_natCast]
 rw [show min n IntKind.u64.bits=n by simp [IntKind.bits];omega]
 rw [Int.fdiv_eq_ediv_of_nonneg _ (by exact_mod_cast Nat.zero_le _)]
 simp
def tLPow:Tree:=(.req 0 [.var 7]
(.lett 8 (.int .i64) (.app 0 0 [.var 7])
(.lett 9 (.int .i64) (.bin .sub .i64 (.var 8) (.lit 1))
(.loop [.var 9,.lit 1] [(.int .i64),(.int .u64)] 10
(.lett 12 .bit (.cmp .geq (.var 10) (.lit 0))
(.split 12
(.req 1 [.var 0,.var 1,.var 2,.var 3,.var 4,.var 5,.var 11,.var 11]
(.lett 13 (.int .u64) (.app 1 0 [.var 0,.var 1,.var 2,.var 3,.var 4,.var 5,.var 11,.var 11])
(.lett 14 .bit (.cmp .leq (.lit 0) (.var 10))
(.lett 15 (.int .u64) (.bin .shr .u64 (.var 7) (.var 10))
(.nz (.var 14)
(.lett 16 (.int .u64) (.bin .and .u64 (.var 15) (.lit 1))
(.lett 17 .bit (.cmp .eql (.var 16) (.lit 1))
(.split 17
 (.req 1 [.var 0,.var 1,.var 2,.var 3,.var 4,.var 5,.var 13,.var 6]
 (.lett 18 (.int .u64) (.app 1 0 [.var 0,.var 1,.var 2,.var 3,.var 4,.var 5,.var 13,.var 6])
 (.lett 19 (.int .i64) (.bin .sub .i64 (.var 10) (.lit 1))
 (.back 0 [.var 19,.var 18]))))
 (.lett 18 (.int .i64) (.bin .sub .i64 (.var 10) (.lit 1))
 (.back 0 [.var 18,.var 13]))))))))))
(.ret [.var 11])))))))
theorem law_lPow (f1 f2 f:FuncId) (e:Nat->Int) (hk:kkHas [.int .u64,.int .u64,.int .u64,.int .u64,.int .u64,.bit,.int .u64,.int .u64] [e 0,e 1,e 2,e 3,e 4,e 5,e 6,e 7]) (hp:(kLPow f).pre [e 0,e 1,e 2,e 3,e 4,e 5,e 6,e 7]):tLPow.says [kLen64 f1,kLMul f2] ⟨fun ys=>ys=(kLPow f).sem [e 0,e 1,e 2,e 3,e 4,e 5,e 6,e 7],[]⟩ e:=by
 have hp:pOk (e 0):=hp
 have p0:0<e 0:=by have:=hp.1;omega
 obtain ⟨_,_,_,_,_,_,h6,h7,_⟩:=hk
 have u6:=has_u64 h6
 have u7:=has_u64 h7
 simp only [tLPow,kLen64,kLMul,kLPow,Tree.says,List.getElem?_cons_zero,List.getElem?_cons_succ,List.map,ev_lit,ev_var,ev_limb,D.ev,List.getD_cons_zero,List.getD_cons_succ]
 refine ⟨trivial,fun a8 _ a9 _=>?_⟩
 have b0:=blen_nn (e 7)
 have b1:=blen_le 64 (e 7) u7.1 (by rw [p64'];exact u7.2)
 have c9:e 9=blen (e 7)-1:=by rw [a9,a8];simp only [binE,wr];omega
 rw [pwM_eq p0 u6.1]
 refine ⟨fun l=>PowI (e 0) (e 6) (e 7) l/\l.headD 0<=63,fun | [i,_]=>(i+1).toNat | _=>0,?_,fun e' he hkk hI=>?_⟩
 ·rw [c9]
  refine ⟨⟨by omega,by omega,?_⟩,by show blen (e 7)-1<=63;omega⟩
  rw [Int.sub_add_cancel]
  have h1:e 7/2^(blen (e 7)).toNat=0:=by
   by_cases hc:e 7<2^(blen (e 7)).toNat
   ·exact Int.ediv_eq_zero_of_lt u7.1 hc
   ·have:=blen_gt (blen (e 7)).toNat (e 7) (by omega);omega
  rw [h1,Int.toNat_zero,Int.pow_zero]
  exact (Int.emod_eq_of_lt (by decide) (by have:=hp.1;omega)).symm
 ·obtain ⟨⟨i1,i2,i3⟩,i4⟩:PowI (e 0) (e 6) (e 7) [e' 10,e' 11]/\e' 10<=63:=hI
  simp only [he 0 (by decide),he 1 (by decide),he 2 (by decide),he 3 (by decide),he 4 (by decide),he 5 (by decide),he 6 (by decide),he 7 (by decide)]
  intro a12 _
  have b12:=c_ge a12
  refine ⟨fun hs=>?_,fun hs=>?_⟩
  ·obtain ⟨n,hi⟩:=Int.eq_ofNat_of_zero_le (show 0<=e' 10 by omega)
   rw [hi,show ((n:Int)+1).toNat=n+1 by omega] at i3
   refine ⟨hp,fun a13 _ a14 _ a15 _=>⟨bit_nz a14 (by omega),fun a16 _ a17 _=>?_⟩⟩
   have b17:=c_eq a17
   rw [hi] at a15
   have c15:=shr_n a15 (by omega)
   have hq:(0:Int)<2^n:=Int.pow_pos (by decide)
   have u15:U (e' 15):=by
    rw [c15]
    exact ⟨Int.ediv_nonneg u7.1 (by omega),Int.lt_of_le_of_lt (Int.ediv_le_self _ u7.1) u7.2⟩
   have c16:=and_1 a16 u15
   rw [c15] at c16
   refine ⟨fun hs2=>?_,fun hs2=>?_⟩
   ·refine ⟨hp,fun a18 _ a19 _=>?_⟩
    have h19:e' 19=n-1:=by rw [a19];simp only [binE,wr];omega
    show (PowI (e 0) (e 6) (e 7) [e' 19,e' 18]/\e' 19<=63)/\(e' 19+1).toNat<(e' 10+1).toNat
    rw [h19,hi]
    refine ⟨⟨⟨by omega,by omega,?_⟩,by omega⟩,by omega⟩
    rw [show ((n:Int)-1+1).toNat=n by omega]
    exact pow_step1 u7.1 i3 a13 a18 (by omega)
   ·intro a18 _
    have h18:e' 18=n-1:=by rw [a18];simp only [binE,wr];omega
    show (PowI (e 0) (e 6) (e 7) [e' 18,e' 13]/\e' 18<=63)/\(e' 18+1).toNat<(e' 10+1).toNat
    rw [h18,hi]
    refine ⟨⟨⟨by omega,by omega,?_⟩,by omega⟩,by omega⟩
    rw [show ((n:Int)-1+1).toNat=n by omega]
    exact pow_step0 u7.1 i3 a13 (by omega)
  ·have h1:e' 10=-1:=by omega
   rw [i3,h1]
   show [e 6^(e 7/1).toNat%e 0]=_
   rw [Int.ediv_one]
def tLInv:Tree:=(.lett 7 (.int .u64) (.bin .sub .u64 (.var 0) (.lit 2))
(.req 0 [.var 0,.var 1,.var 2,.var 3,.var 4,.var 5,.var 6,.var 7]
(.lett 8 (.int .u64) (.app 0 0 [.var 0,.var 1,.var 2,.var 3,.var 4,.var 5,.var 6,.var 7])
(.ret [.var 8]))))
theorem law_lInv (f1 f:FuncId) (e:Nat->Int) (hk:kkHas [.int .u64,.int .u64,.int .u64,.int .u64,.int .u64,.bit,.int .u64] [e 0,e 1,e 2,e 3,e 4,e 5,e 6]) (hp:(kLInv f).pre [e 0,e 1,e 2,e 3,e 4,e 5,e 6]):tLInv.says [kLPow f1] ⟨fun ys=>ys=(kLInv f).sem [e 0,e 1,e 2,e 3,e 4,e 5,e 6],[]⟩ e:=by
 have hp:pOk (e 0):=hp
 have p0:=hp.1
 have p1:=hp.2
 simp only [tLInv,kLPow,kLInv,Tree.says,List.getElem?_cons_zero,List.getElem?_cons_succ,List.map,ev_lit,ev_var,ev_limb,D.ev,List.getD_cons_zero,List.getD_cons_succ]
 intro a7 _
 have c7:e 7=e 0-2:=by rw [a7];simp only [binE,wr];omega
 refine ⟨hp,fun a8 _=>?_⟩
 rw [a8,c7];rfl
def tLRight:Tree:=(.req 0 [.var 0,.var 1,.var 2,.var 3,.var 4,.var 5,.var 6,.var 6]
(.lett 247 (.int .u64) (.app 0 0 [.var 0,.var 1,.var 2,.var 3,.var 4,.var 5,.var 6,.var 6])
(.req 0 [.var 0,.var 1,.var 2,.var 3,.var 4,.var 5,.var 247,.var 6]
(.lett 343 (.int .u64) (.app 0 0 [.var 0,.var 1,.var 2,.var 3,.var 4,.var 5,.var 247,.var 6])
(.req 1 [.var 0,.var 1,.var 2,.var 3,.var 4,.var 5,.var 343,.var 6]
(.lett 439 (.int .u64) (.app 1 0 [.var 0,.var 1,.var 2,.var 3,.var 4,.var 5,.var 343,.var 6])
(.ret [.var 439])))))))
theorem law_lRight (f1 f2 f:FuncId) (e:Nat->Int) (hp:(kLRight f).pre [e 0,e 1,e 2,e 3,e 4,e 5,e 6]):tLRight.says [kLMul f1,kLAdd f2] ⟨fun ys=>ys=(kLRight f).sem [e 0,e 1,e 2,e 3,e 4,e 5,e 6],[]⟩ e:=by
 obtain ⟨hp,hx⟩:pOk (e 0)/\e 6<e 0:=hp
 have p0:=hp.1
 simp only [tLRight,kLMul,kLAdd,kLRight,Tree.says,List.getElem?_cons_zero,List.getElem?_cons_succ,List.map,ev_lit,ev_var,ev_limb,D.ev,List.getD_cons_zero,List.getD_cons_succ]
 refine ⟨hp,fun a1 _=>⟨hp,fun a2 _=>⟨⟨hp,by rw [a2];exact (md_lt (by omega)).2,hx⟩,fun a3 _=>?_⟩⟩⟩
 rw [a3,a2,a1];rfl
def tLOn:Tree:=(.split 8
(.lett 9 .bit (.cmp .eql (.var 6) (.lit 0))
(.split 9
 (.lett 10 .bit (.cmp .eql (.var 7) (.lit 0))
 (.ret [.var 10]))
 (.ret [.lit 0])))
(.lett 201 .bit (.cmp .lss (.var 6) (.var 0))
(.split 201
 (.lett 489 .bit (.cmp .lss (.var 7) (.var 0))
 (.split 489
 (.req 0 [.var 0,.var 1,.var 2,.var 3,.var 4,.var 5,.var 7,.var 7]
 (.lett 873 (.int .u64) (.app 0 0 [.var 0,.var 1,.var 2,.var 3,.var 4,.var 5,.var 7,.var 7])
 (.req 1 [.var 0,.var 1,.var 2,.var 3,.var 4,.var 5,.var 6]
 (.lett 1065 (.int .u64) (.app 1 0 [.var 0,.var 1,.var 2,.var 3,.var 4,.var 5,.var 6])
 (.lett 1113 .bit (.cmp .eql (.var 873) (.var 1065))
 (.ret [.var 1113]))))))
 (.ret [.lit 0])))
 (.ret [.lit 0]))))
theorem law_lOn (f1 f2 f:FuncId) (e:Nat->Int) (hp:(kLOn f).pre [e 0,e 1,e 2,e 3,e 4,e 5,e 6,e 7,e 8]):tLOn.says [kLMul f1,kLRight f2] ⟨fun ys=>ys=(kLOn f).sem [e 0,e 1,e 2,e 3,e 4,e 5,e 6,e 7,e 8],[]⟩ e:=by
 have hp:pOk (e 0):=hp
 simp only [tLOn,kLMul,kLRight,kLOn,Tree.says,List.getElem?_cons_zero,List.getElem?_cons_succ,List.map,ev_lit,ev_var,ev_limb,D.ev,List.getD_cons_zero,List.getD_cons_succ]
 unfold bi
 refine ⟨fun hz=>?_,fun hz=>?_⟩
 ·intro a9 _
  have b9:=c_eq a9
  refine ⟨fun h1=>?_,fun h1=>?_⟩
  ·intro a10 _
   have b10:=c_eq a10
   have:onP (e 0) (e 6) (e 7) (e 8)↔e 7=0:=by unfold onP;rw [if_neg hz];constructor <;> intro h <;> omega
   simp only [this]
   congr 1
   split <;> omega
  ·have:¬ onP (e 0) (e 6) (e 7) (e 8):=by unfold onP;rw [if_neg hz];omega
   rw [if_neg this]
 ·intro a1 _
  have b1:=c_lt a1
  have hon:onP (e 0) (e 6) (e 7) (e 8)↔e 6<e 0/\e 7<e 0/\e 7*e 7%e 0=rightP (e 0) (e 6):=by unfold onP;rw [if_pos hz]
  refine ⟨fun h1=>?_,fun h1=>?_⟩
  ·intro a2 _
   have b2:=c_lt a2
   refine ⟨fun h2=>?_,fun h2=>?_⟩
   ·refine ⟨hp,fun a3 _=>⟨⟨hp,by omega⟩,fun a4 _ a5 _=>?_⟩⟩
    have b5:=c_eq a5
    rw [a3,a4] at b5
    simp only [hon]
    congr 1
    split
    ·rename_i h;rcases b5 with b5 | b5
     ·exact b5.1
     ·exact absurd h.2.2 b5.2
    ·rename_i h;rcases b5 with b5 | b5
     ·exact absurd ⟨by omega,by omega,b5.2⟩ h
     ·exact b5.1
   ·rw [if_neg (by rw [hon];omega)]
  ·rw [if_neg (by rw [hon];omega)]
def tLSlope:Tree:=(.lett 12 .bit (.cmp .neq (.var 6) (.var 9))
(.split 12
(.req 0 [.var 0,.var 1,.var 2,.var 3,.var 4,.var 5,.var 10,.var 7]
(.lett 301 (.int .u64) (.app 0 0 [.var 0,.var 1,.var 2,.var 3,.var 4,.var 5,.var 10,.var 7])
(.req 0 [.var 0,.var 1,.var 2,.var 3,.var 4,.var 5,.var 9,.var 6]
(.lett 637 (.int .u64) (.app 0 0 [.var 0,.var 1,.var 2,.var 3,.var 4,.var 5,.var 9,.var 6])
(.req 1 [.var 0,.var 1,.var 2,.var 3,.var 4,.var 5,.var 637]
(.lett 685 (.int .u64) (.app 1 0 [.var 0,.var 1,.var 2,.var 3,.var 4,.var 5,.var 637])
(.req 2 [.var 0,.var 1,.var 2,.var 3,.var 4,.var 5,.var 301,.var 685]
(.lett 733 (.int .u64) (.app 2 0 [.var 0,.var 1,.var 2,.var 3,.var 4,.var 5,.var 301,.var 685])
(.ret [.var 733,.lit 1])))))))))
(.lett 13 .bit (.cmp .neq (.var 7) (.var 10))
(.split 13
 (.ret [.lit 0,.lit 0])
 (.lett 14 .bit (.cmp .eql (.var 7) (.lit 0))
 (.split 14
 (.ret [.lit 0,.lit 0])
 (.req 2 [.var 0,.var 1,.var 2,.var 3,.var 4,.var 5,.var 6,.var 6]
 (.lett 15 (.int .u64) (.app 2 0 [.var 0,.var 1,.var 2,.var 3,.var 4,.var 5,.var 6,.var 6])
 (.req 3 [.var 0,.var 1,.var 2,.var 3,.var 4,.var 5,.var 15,.var 15]
 (.lett 304 (.int .u64) (.app 3 0 [.var 0,.var 1,.var 2,.var 3,.var 4,.var 5,.var 15,.var 15])
 (.req 3 [.var 0,.var 1,.var 2,.var 3,.var 4,.var 5,.var 304,.var 15]
 (.lett 400 (.int .u64) (.app 3 0 [.var 0,.var 1,.var 2,.var 3,.var 4,.var 5,.var 304,.var 15])
 (.req 3 [.var 0,.var 1,.var 2,.var 3,.var 4,.var 5,.var 400,.lit 1]
 (.lett 448 (.int .u64) (.app 3 0 [.var 0,.var 1,.var 2,.var 3,.var 4,.var 5,.var 400,.lit 1])
 (.req 3 [.var 0,.var 1,.var 2,.var 3,.var 4,.var 5,.var 7,.var 7]
 (.lett 784 (.int .u64) (.app 3 0 [.var 0,.var 1,.var 2,.var 3,.var 4,.var 5,.var 7,.var 7])
 (.req 1 [.var 0,.var 1,.var 2,.var 3,.var 4,.var 5,.var 784]
 (.lett 832 (.int .u64) (.app 1 0 [.var 0,.var 1,.var 2,.var 3,.var 4,.var 5,.var 784])
 (.req 2 [.var 0,.var 1,.var 2,.var 3,.var 4,.var 5,.var 448,.var 832]
 (.lett 880 (.int .u64) (.app 2 0 [.var 0,.var 1,.var 2,.var 3,.var 4,.var 5,.var 448,.var 832])
 (.ret [.var 880,.lit 1])))))))))))))))))))))
theorem law_lSlope (f1 f2 f3 f4 f:FuncId) (e:Nat->Int) (hk:kkHas [.int .u64,.int .u64,.int .u64,.int .u64,.int .u64,.bit,.int .u64,.int .u64,.bit,.int .u64,.int .u64,.bit] [e 0,e 1,e 2,e 3,e 4,e 5,e 6,e 7,e 8,e 9,e 10,e 11]) (hp:(kLSlope f).pre [e 0,e 1,e 2,e 3,e 4,e 5,e 6,e 7,e 8,e 9,e 10,e 11]):tLSlope.says [kLSub f1,kLInv f2,kLMul f3,kLAdd f4] ⟨fun ys=>ys=(kLSlope f).sem [e 0,e 1,e 2,e 3,e 4,e 5,e 6,e 7,e 8,e 9,e 10,e 11],[]⟩ e:=by
 obtain ⟨hp,q1,q2,q3,q4⟩:=hp
 have p0:0<e 0:=by have:=hp.1;omega
 have p3:=hp.1
 have lt:∀ x:Int,x%e 0<e 0:=fun x=>(md_lt p0).2
 simp only [tLSlope,kLSub,kLInv,kLMul,kLAdd,kLSlope,Tree.says,List.getElem?_cons_zero,List.getElem?_cons_succ,List.map,ev_lit,ev_var,ev_limb,D.ev,List.getD_cons_zero,List.getD_cons_succ]
 intro a12 _
 have b12:=c_ne a12
 refine ⟨fun h=>?_,fun h=>?_⟩
 ·refine ⟨⟨hp,q4,q2⟩,fun a1 _=>⟨⟨hp,q3,q1⟩,fun a2 _=>⟨hp,fun a3 _=>⟨hp,fun a4 _=>?_⟩⟩⟩⟩
  unfold slopeP
  rw [if_pos (by omega),a4,a1,a3,a2]
 ·intro a13 _
  have b13:=c_ne a13
  refine ⟨fun h1=>?_,fun h1=>?_⟩
  ·unfold slopeP
   rw [if_neg (by omega),if_pos (by omega)]
  ·intro a14 _
   have b14:=c_eq a14
   refine ⟨fun h2=>?_,fun h2=>?_⟩
   ·unfold slopeP
    rw [if_neg (by omega),if_pos (by omega)]
   ·refine ⟨hp,fun a1 _=>⟨⟨hp,by rw [a1];exact lt _,by rw [a1];exact lt _⟩,fun a2 _=>⟨⟨hp,by rw [a2];exact lt _,by rw [a1];exact lt _⟩,fun a3 _=>⟨⟨hp,by rw [a3];exact lt _,by omega⟩,fun a4 _=>⟨⟨hp,q2,q2⟩,fun a5 _=>⟨hp,fun a6 _=>⟨hp,fun a7 _=>?_⟩⟩⟩⟩⟩⟩⟩
    unfold slopeP
    rw [if_neg (by omega),if_neg (by omega),a7,a4,a6,a3,a5,a2,a1]
def tLSum:Tree:=(.split 8
(.ret [.var 9,.var 10,.var 11])
(.split 11
 (.ret [.var 6,.var 7,.var 8])
 (.req 0 [.var 0,.var 1,.var 2,.var 3,.var 4,.var 5,.var 6,.var 7,.var 8,.var 9,.var 10,.var 11]
 (.lett 12 (.int .u64) (.app 0 0 [.var 0,.var 1,.var 2,.var 3,.var 4,.var 5,.var 6,.var 7,.var 8,.var 9,.var 10,.var 11])
 (.lett 13 .bit (.app 0 1 [.var 0,.var 1,.var 2,.var 3,.var 4,.var 5,.var 6,.var 7,.var 8,.var 9,.var 10,.var 11])
 (.lett 14 .bit (.not (.var 13))
 (.split 14
 (.ret [.lit 0,.lit 0,.lit 1])
 (.req 1 [.var 0,.var 1,.var 2,.var 3,.var 4,.var 5,.var 12,.var 12]
 (.lett 255 (.int .u64) (.app 1 0 [.var 0,.var 1,.var 2,.var 3,.var 4,.var 5,.var 12,.var 12])
 (.req 2 [.var 0,.var 1,.var 2,.var 3,.var 4,.var 5,.var 255,.var 6]
 (.lett 399 (.int .u64) (.app 2 0 [.var 0,.var 1,.var 2,.var 3,.var 4,.var 5,.var 255,.var 6])
 (.req 2 [.var 0,.var 1,.var 2,.var 3,.var 4,.var 5,.var 399,.var 9]
 (.lett 543 (.int .u64) (.app 2 0 [.var 0,.var 1,.var 2,.var 3,.var 4,.var 5,.var 399,.var 9])
 (.req 2 [.var 0,.var 1,.var 2,.var 3,.var 4,.var 5,.var 6,.var 543]
 (.lett 1023 (.int .u64) (.app 2 0 [.var 0,.var 1,.var 2,.var 3,.var 4,.var 5,.var 6,.var 543])
 (.req 1 [.var 0,.var 1,.var 2,.var 3,.var 4,.var 5,.var 12,.var 1023]
 (.lett 1071 (.int .u64) (.app 1 0 [.var 0,.var 1,.var 2,.var 3,.var 4,.var 5,.var 12,.var 1023])
 (.req 2 [.var 0,.var 1,.var 2,.var 3,.var 4,.var 5,.var 1071,.var 7]
 (.lett 1215 (.int .u64) (.app 2 0 [.var 0,.var 1,.var 2,.var 3,.var 4,.var 5,.var 1071,.var 7])
 (.ret [.var 543,.var 1215,.lit 0]))))))))))))))))))))
theorem law_lSum (f1 f2 f3 f:FuncId) (e:Nat->Int) (hk:kkHas [.int .u64,.int .u64,.int .u64,.int .u64,.int .u64,.bit,.int .u64,.int .u64,.bit,.int .u64,.int .u64,.bit] [e 0,e 1,e 2,e 3,e 4,e 5,e 6,e 7,e 8,e 9,e 10,e 11]) (hp:(kLSum f).pre [e 0,e 1,e 2,e 3,e 4,e 5,e 6,e 7,e 8,e 9,e 10,e 11]):tLSum.says [kLSlope f1,kLMul f2,kLSub f3] ⟨fun ys=>ys=(kLSum f).sem [e 0,e 1,e 2,e 3,e 4,e 5,e 6,e 7,e 8,e 9,e 10,e 11],[]⟩ e:=by
 obtain ⟨hp,q1,q2,q3,q4⟩:=hp
 have p0:0<e 0:=by have:=hp.1;omega
 have lt:∀ x:Int,x%e 0<e 0:=fun x=>(md_lt p0).2
 simp only [tLSum,kLSlope,kLMul,kLSub,kLSum,Tree.says,List.getElem?_cons_zero,List.getElem?_cons_succ,List.map,ev_lit,ev_var,ev_limb,D.ev,List.getD_cons_zero,List.getD_cons_succ]
 refine ⟨fun h=>?_,fun h=>?_⟩
 ·unfold sumP Pt.l;rw [if_pos h]
 refine ⟨fun h1=>?_,fun h1=>?_⟩
 ·unfold sumP Pt.l;rw [if_neg (by simpa using h),if_pos h1]
 refine ⟨⟨hp,q1,q2,q3,q4⟩,fun a12 _ a13 _ a14 _=>?_⟩
 have b14:=c_not a14
 refine ⟨fun h2=>?_,fun h2=>?_⟩
 ·have hz:(slopeP (e 0) (e 6) (e 7) (e 9) (e 10)).2=0:=by rw [<- a13];omega
  unfold sumP Pt.l
  rw [if_neg (by simpa using h),if_neg (by simpa using h1)]
  simp only [hz,if_true]
 ·have hz:¬ (slopeP (e 0) (e 6) (e 7) (e 9) (e 10)).2=0:=by rw [<- a13];omega
  refine ⟨hp,fun a1 _=>⟨⟨hp,by rw [a1];exact lt _,q1⟩,fun a2 _=>⟨⟨hp,by rw [a2];exact lt _,q3⟩,fun a3 _=>⟨⟨hp,q1,by rw [a3];exact lt _⟩,fun a4 _=>⟨hp,fun a5 _=>⟨⟨hp,by rw [a5];exact lt _,q2⟩,fun a6 _=>?_⟩⟩⟩⟩⟩⟩
  unfold sumP Pt.l
  rw [if_neg (by simpa using h),if_neg (by simpa using h1)]
  simp only [hz,if_false]
  rw [a6,a5,a4,a3,a2,a1,a12]
theorem sumP_lt {p:Int} (hp:0<p) {a b:Pt} (ha:a.lt p) (hb:b.lt p):(sumP p a b).lt p:=by
 unfold sumP
 split
 ·exact hb
 split
 ·exact ha
 simp only
 split
 ·exact ⟨⟨Int.le_refl _,hp⟩,Int.le_refl _,hp⟩
 ·exact ⟨md_lt hp,md_lt hp⟩
theorem mulP_lt {p:Int} (hp:0<p) {a:Pt} (ha:a.lt p):∀ (k n:Nat),(mulP p a k n).lt p
 | 0,n=>⟨⟨Int.le_refl _,hp⟩,Int.le_refl _,hp⟩
 | k+1,n=>by
  unfold mulP
  split
  ·exact ⟨⟨Int.le_refl _,hp⟩,Int.le_refl _,hp⟩
  ·simp only
   have h:=mulP_lt hp ha k (n/2)
   have hd:=sumP_lt hp h h
   split
   ·exact sumP_lt hp hd ha
   ·exact hd
theorem mulP_fuel {p:Int} {a:Pt}:∀ (k n:Nat),n<2^k->mulP p a (k+1) n=mulP p a k n
 | 0,n,h=>by
  have:n=0:=by simpa using h
  subst this;rfl
 | k+1,n,h=>by
  have ih:=mulP_fuel (p:=p) (a:=a) k (n/2) (by rw [Nat.pow_succ] at h;omega)
  have e1:∀ j,mulP p a (j+1) n=if n=0 then ⟨0,0,1⟩ else (if n%2=1 then sumP p (sumP p (mulP p a j (n/2)) (mulP p a j (n/2))) a else sumP p (mulP p a j (n/2)) (mulP p a j (n/2))):=fun j=>rfl
  rw [e1,e1,ih]
theorem mulP_step {p:Int} {a:Pt} {n:Nat} (h:n<2^64):mulP p a 64 n=(if n%2=1 then sumP p (sumP p (mulP p a 64 (n/2)) (mulP p a 64 (n/2))) a else sumP p (mulP p a 64 (n/2)) (mulP p a 64 (n/2))):=by
 have hf:mulP p a 64 (n/2)=mulP p a 63 (n/2):=mulP_fuel 63 (n/2) (by omega)
 rw [hf]
 conv=>lhs;unfold mulP
 split
 ·rename_i h0
  subst h0
  rfl
 ·rfl
def TimesI (p:Int) (a:Pt) (n:Int):List Int->Prop
 | [i,x,y,z]=>-1<=i/\i<=63/\(⟨x,y,z⟩:Pt)=mulP p a 64 (n/2^(i+1).toNat).toNat
 | _=>False
def tLTimes:Tree:=(.req 0 [.var 9]
(.lett 10 (.int .i64) (.app 0 0 [.var 9])
(.lett 11 (.int .i64) (.bin .sub .i64 (.var 10) (.lit 1))
(.loop [.var 11,.lit 0,.lit 0,.lit 1] [(.int .i64),(.int .u64),(.int .u64),.bit] 12
(.lett 16 .bit (.cmp .geq (.var 12) (.lit 0))
(.split 16
(.req 1 [.var 0,.var 1,.var 2,.var 3,.var 4,.var 5,.var 13,.var 14,.var 15,.var 13,.var 14,.var 15]
(.lett 17 (.int .u64) (.app 1 0 [.var 0,.var 1,.var 2,.var 3,.var 4,.var 5,.var 13,.var 14,.var 15,.var 13,.var 14,.var 15])
(.lett 18 (.int .u64) (.app 1 1 [.var 0,.var 1,.var 2,.var 3,.var 4,.var 5,.var 13,.var 14,.var 15,.var 13,.var 14,.var 15])
(.lett 19 .bit (.app 1 2 [.var 0,.var 1,.var 2,.var 3,.var 4,.var 5,.var 13,.var 14,.var 15,.var 13,.var 14,.var 15])
(.lett 20 .bit (.cmp .leq (.lit 0) (.var 12))
(.lett 21 (.int .u64) (.bin .shr .u64 (.var 9) (.var 12))
(.nz (.var 20)
(.lett 22 (.int .u64) (.bin .and .u64 (.var 21) (.lit 1))
(.lett 23 .bit (.cmp .eql (.var 22) (.lit 1))
(.split 23
 (.req 1 [.var 0,.var 1,.var 2,.var 3,.var 4,.var 5,.var 17,.var 18,.var 19,.var 6,.var 7,.var 8]
 (.lett 24 (.int .u64) (.app 1 0 [.var 0,.var 1,.var 2,.var 3,.var 4,.var 5,.var 17,.var 18,.var 19,.var 6,.var 7,.var 8])
 (.lett 25 (.int .u64) (.app 1 1 [.var 0,.var 1,.var 2,.var 3,.var 4,.var 5,.var 17,.var 18,.var 19,.var 6,.var 7,.var 8])
 (.lett 26 .bit (.app 1 2 [.var 0,.var 1,.var 2,.var 3,.var 4,.var 5,.var 17,.var 18,.var 19,.var 6,.var 7,.var 8])
 (.lett 27 (.int .i64) (.bin .sub .i64 (.var 12) (.lit 1))
 (.back 0 [.var 27,.var 24,.var 25,.var 26]))))))
 (.lett 24 (.int .i64) (.bin .sub .i64 (.var 12) (.lit 1))
 (.back 0 [.var 24,.var 17,.var 18,.var 19]))))))))))))
(.ret [.var 13,.var 14,.var 15])))))))
theorem law_lTimes (f1 f2 f:FuncId) (e:Nat->Int) (hk:kkHas [.int .u64,.int .u64,.int .u64,.int .u64,.int .u64,.bit,.int .u64,.int .u64,.bit,.int .u64] [e 0,e 1,e 2,e 3,e 4,e 5,e 6,e 7,e 8,e 9]) (hp:(kLTimes f).pre [e 0,e 1,e 2,e 3,e 4,e 5,e 6,e 7,e 8,e 9]):tLTimes.says [kLen64 f1,kLSum f2] ⟨fun ys=>ys=(kLTimes f).sem [e 0,e 1,e 2,e 3,e 4,e 5,e 6,e 7,e 8,e 9],[]⟩ e:=by
 obtain ⟨hp,q1,q2⟩:=hp
 have p0:0<e 0:=by have:=hp.1;omega
 obtain ⟨_,_,_,_,_,_,h6,h7,h8,h9,_⟩:=hk
 have u6:=has_u64 h6
 have u7:=has_u64 h7
 have u9:=has_u64 h9
 have ha:(⟨e 6,e 7,e 8⟩:Pt).lt (e 0):=⟨⟨u6.1,q1⟩,u7.1,q2⟩
 simp only [tLTimes,kLen64,kLSum,kLTimes,Tree.says,List.getElem?_cons_zero,List.getElem?_cons_succ,List.map,ev_lit,ev_var,ev_limb,D.ev,List.getD_cons_zero,List.getD_cons_succ]
 refine ⟨trivial,fun a10 _ a11 _=>?_⟩
 have b0:=blen_nn (e 9)
 have b1:=blen_le 64 (e 9) u9.1 (by rw [p64'];exact u9.2)
 have c11:e 11=blen (e 9)-1:=by rw [a11,a10];simp only [binE,wr];omega
 refine ⟨TimesI (e 0) ⟨e 6,e 7,e 8⟩ (e 9),fun | [i,_,_,_]=>(i+1).toNat | _=>0,?_,fun e' he hkk hI=>?_⟩
 ·rw [c11]
  refine ⟨by omega,by omega,?_⟩
  rw [Int.sub_add_cancel]
  have h1:e 9/2^(blen (e 9)).toNat=0:=by
   by_cases hc:e 9<2^(blen (e 9)).toNat
   ·exact Int.ediv_eq_zero_of_lt u9.1 hc
   ·have:=blen_gt (blen (e 9)).toNat (e 9) (by omega);omega
  rw [h1];rfl
 ·obtain ⟨i1,i2,i3⟩:TimesI (e 0) ⟨e 6,e 7,e 8⟩ (e 9) [e' 12,e' 13,e' 14,e' 15]:=hI
  simp only [he 0 (by decide),he 1 (by decide),he 2 (by decide),he 3 (by decide),he 4 (by decide),he 5 (by decide),he 6 (by decide),he 7 (by decide),he 8 (by decide),he 9 (by decide)]
  intro a16 _
  have b16:=c_ge a16
  refine ⟨fun hs=>?_,fun hs=>?_⟩
  ·obtain ⟨n,hi⟩:=Int.eq_ofNat_of_zero_le (show 0<=e' 12 by omega)
   rw [hi,show ((n:Int)+1).toNat=n+1 by omega] at i3
   have hq:(0:Int)<2^n:=Int.pow_pos (by decide)
   have hn0:=Int.ediv_nonneg u9.1 (show (0:Int)<=2^n by omega)
   have hn1:e 9/2^n<18446744073709551616:=Int.lt_of_le_of_lt (Int.ediv_le_self _ u9.1) u9.2
   have hlt:=mulP_lt p0 ha 64 (e 9/2^(n+1)).toNat
   rw [<- i3] at hlt
   have hst:=mulP_step (p:=e 0) (a:=⟨e 6,e 7,e 8⟩) (n:=(e 9/2^n).toNat) (by omega)
   have hhalf:(e 9/2^n).toNat/2=(e 9/2^(n+1)).toNat:=by
    rw [Int.pow_succ,<- Int.ediv_ediv_of_nonneg (by omega)];omega
   rw [hhalf,<- i3] at hst
   refine ⟨⟨hp,hlt.1.2,hlt.2.2,hlt.1.2,hlt.2.2⟩,fun a17 _ a18 _ a19 _ a20 _ a21 _=>⟨bit_nz a20 (by omega),fun a22 _ a23 _=>?_⟩⟩
   have b23:=c_eq a23
   rw [hi] at a21
   have c21:=shr_n a21 (by omega)
   have c22:=and_1 a22 (by rw [c21];exact ⟨hn0,hn1⟩)
   rw [c21] at c22
   have hd:(⟨e' 17,e' 18,e' 19⟩:Pt)=sumP (e 0) ⟨e' 13,e' 14,e' 15⟩ ⟨e' 13,e' 14,e' 15⟩:=by rw [a17,a18,a19];rfl
   have hdl:=sumP_lt p0 hlt hlt
   rw [<- hd] at hdl hst
   refine ⟨fun hs2=>?_,fun hs2=>?_⟩
   ·refine ⟨⟨hp,hdl.1.2,hdl.2.2,q1,q2⟩,fun a24 _ a25 _ a26 _ a27 _=>?_⟩
    have h27:e' 27=n-1:=by rw [a27];simp only [binE,wr];omega
    show TimesI (e 0) ⟨e 6,e 7,e 8⟩ (e 9) [e' 27,e' 24,e' 25,e' 26]/\(e' 27+1).toNat<(e' 12+1).toNat
    rw [h27,hi]
    refine ⟨⟨by omega,by omega,?_⟩,by omega⟩
    rw [show ((n:Int)-1+1).toNat=n by omega,hst,if_pos (by omega),a24,a25,a26];rfl
   ·intro a24 _
    have h24:e' 24=n-1:=by rw [a24];simp only [binE,wr];omega
    show TimesI (e 0) ⟨e 6,e 7,e 8⟩ (e 9) [e' 24,e' 17,e' 18,e' 19]/\(e' 24+1).toNat<(e' 12+1).toNat
    rw [h24,hi]
    refine ⟨⟨by omega,by omega,?_⟩,by omega⟩
    rw [show ((n:Int)-1+1).toNat=n by omega,hst,if_neg (by omega)]
  ·have h1:e' 12=-1:=by omega
   rw [h1] at i3
   have h2:(⟨e' 13,e' 14,e' 15⟩:Pt)=mulP (e 0) ⟨e 6,e 7,e 8⟩ 64 (e 9).toNat:=by
    rw [i3];congr 2
    show e 9/1=e 9
    rw [Int.ediv_one]
   rw [<- h2];rfl
def tLIn:Tree:=(.req 0 [.var 0,.var 1,.var 2,.var 3,.var 4,.var 5,.var 6,.var 7,.var 8]
(.lett 9 .bit (.app 0 0 [.var 0,.var 1,.var 2,.var 3,.var 4,.var 5,.var 6,.var 7,.var 8])
(.split 9
(.req 1 [.var 0,.var 1,.var 2,.var 3,.var 4,.var 5,.var 6,.var 7,.var 8,.var 1]
(.lett 10 (.int .u64) (.app 1 0 [.var 0,.var 1,.var 2,.var 3,.var 4,.var 5,.var 6,.var 7,.var 8,.var 1])
(.lett 11 (.int .u64) (.app 1 1 [.var 0,.var 1,.var 2,.var 3,.var 4,.var 5,.var 6,.var 7,.var 8,.var 1])
(.lett 12 .bit (.app 1 2 [.var 0,.var 1,.var 2,.var 3,.var 4,.var 5,.var 6,.var 7,.var 8,.var 1])
(.ret [.var 12])))))
(.ret [.lit 0]))))
theorem law_lIn (f1 f2 f:FuncId) (e:Nat->Int) (hk:kkHas [.int .u64,.int .u64,.int .u64,.int .u64,.int .u64,.bit,.int .u64,.int .u64,.bit] [e 0,e 1,e 2,e 3,e 4,e 5,e 6,e 7,e 8]) (hp:(kLIn f).pre [e 0,e 1,e 2,e 3,e 4,e 5,e 6,e 7,e 8]):tLIn.says [kLOn f1,kLTimes f2] ⟨fun ys=>ys=(kLIn f).sem [e 0,e 1,e 2,e 3,e 4,e 5,e 6,e 7,e 8],[]⟩ e:=by
 have hp:pOk (e 0):=hp
 have p0:=hp.1
 simp only [tLIn,kLOn,kLTimes,kLIn,Tree.says,List.getElem?_cons_zero,List.getElem?_cons_succ,List.map,ev_lit,ev_var,ev_limb,D.ev,List.getD_cons_zero,List.getD_cons_succ]
 refine ⟨hp,fun a9 _=>?_⟩
 unfold bi at a9 ⊢
 refine ⟨fun h=>?_,fun h=>?_⟩
 ·have hon:onP (e 0) (e 6) (e 7) (e 8):=by
   by_cases hc:onP (e 0) (e 6) (e 7) (e 8)
   ·exact hc
   ·rw [if_neg hc] at a9;omega
  have hb:e 6<e 0/\e 7<e 0:=by
   unfold onP at hon
   split at hon <;> omega
  refine ⟨⟨hp,hb.1,hb.2⟩,fun a10 _ a11 _ a12 k12=>?_⟩
  have hz:e 12=(mulP (e 0) ⟨e 6,e 7,e 8⟩ 64 (e 1).toNat).z:=a12
  have k12:0<=e 12/\e 12<=1:=k12
  by_cases hc:(mulP (e 0) ⟨e 6,e 7,e 8⟩ 64 (e 1).toNat).z≠0
  ·rw [if_pos ⟨hon,hc⟩];congr 1;omega
  ·rw [if_neg (fun hh=>hc hh.2)];congr 1;omega
 ·have hon:¬ onP (e 0) (e 6) (e 7) (e 8):=fun hc=>by rw [if_pos hc] at a9;omega
  rw [if_neg (fun hh=>hon hh.1)]
end Go.Sx




namespace Go.Sx
open Go Go.RowKit
set_option maxRecDepth 100000
def readV (l:List Int):Int:=l.foldl (fun a b=>256*a+b) 0
theorem selW {a k s:Int} (hk:0<=k/\k<6) (hs:s=([lim a 0,lim a 1,lim a 2,lim a 3,lim a 4,lim a 5]:List Int).getD k.toNat 0):s=lim a k.toNat:=by
 have:k=0∨k=1∨k=2∨k=3∨k=4∨k=5:=by omega
 rw [hs]
 rcases this with h | h | h | h | h | h <;> rw [h] <;> rfl
theorem min64 {r:Nat} (h:r<=64):min r IntKind.u64.bits=r:=by show min r 64=r;omega
theorem quo_ {i v:Int} (d:Int) (hd:0<d) (hi:0<=i/\i<9223372036854775808) (h:v=binE .quo .i64 i d):v=i/d:=by
 have h0:0<=i/d:=Int.ediv_nonneg hi.1 (by omega)
 have h1:i/d<=i:=Int.ediv_le_self _ hi.1
 rw [h];simp only [binE,wr]
 rw [Int.tdiv_eq_ediv_of_nonneg hi.1]
 omega
theorem rem_ {i v:Int} (d:Int) (hi:0<=i) (h:v=binE .rem .i64 i d):v=i%d:=by
 rw [h];simp only [binE]
 rw [Int.tmod_eq_emod_of_nonneg hi]
theorem mul8 {r v:Int} (hr:0<=r/\r<8) (h:v=binE .mul .i64 8 r):v=8*r:=by
 rw [h];simp only [binE,wr];omega
theorem sub_ {a b v:Int} (h:v=binE .sub .i64 a b) (h0:-9223372036854775808<=a-b/\a-b<=9223372036854775807):v=a-b:=by
 rw [h];simp only [binE,wr];omega
theorem add_ {a b v:Int} (h:v=binE .add .i64 a b) (h0:-9223372036854775808<=a+b/\a+b<=9223372036854775807):v=a+b:=by
 rw [h];simp only [binE,wr];omega
theorem put_joinW {q k v d p0 p1 p2 p3 p4 p5:Int} (hq:0<=q/\q<N384) (hk:0<=k/\k<6) (hv:v=lim q k.toNat+d)
  (h0:p0=if k=((0:Nat):Int) then v else lim q 0) (h1:p1=if k=((1:Nat):Int) then v else lim q 1) (h2:p2=if k=((2:Nat):Int) then v else lim q 2) (h3:p3=if k=((3:Nat):Int) then v else lim q 3) (h4:p4=if k=((4:Nat):Int) then v else lim q 4) (h5:p5=if k=((5:Nat):Int) then v else lim q 5) :
  joinE [p0,p1,p2,p3,p4,p5]=q+d*2^(64*k.toNat):=by
 have ex:=lim_eq hq
 rw [joinE6]
 have:k=0∨k=1∨k=2∨k=3∨k=4∨k=5:=by omega
 have p0':(2:Int)^(64*0)=1:=rfl
 have p1':(2:Int)^(64*1)=18446744073709551616:=p64'
 have p2':(2:Int)^(64*2)=340282366920938463463374607431768211456:=p128
 have p3':(2:Int)^(64*3)=6277101735386680763835789423207666416102355444464034512896:=by decide +kernel
 have p4':(2:Int)^(64*4)=115792089237316195423570985008687907853269984665640564039457584007913129639936:=by decide +kernel
 have p5':(2:Int)^(64*5)=2135987035920910082395021706169552114602704522356652769947041607822219725780640550022962086936576:=by decide +kernel
 rcases this with h | h | h | h | h | h <;> subst h
 ·rw [show (0:Int).toNat=0 from rfl] at *
  rw [p0',h0,h1,h2,h3,h4,h5];simp [hv];omega
 ·rw [show (1:Int).toNat=1 from rfl] at *
  rw [p1',h0,h1,h2,h3,h4,h5];simp [hv];omega
 ·rw [show (2:Int).toNat=2 from rfl] at *
  rw [p2',h0,h1,h2,h3,h4,h5];simp [hv];omega
 ·rw [show (3:Int).toNat=3 from rfl] at *
  rw [p3',h0,h1,h2,h3,h4,h5];simp [hv];omega
 ·rw [show (4:Int).toNat=4 from rfl] at *
  rw [p4',h0,h1,h2,h3,h4,h5];simp [hv];omega
 ·rw [show (5:Int).toNat=5 from rfl] at *
  rw [p5',h0,h1,h2,h3,h4,h5];simp [hv];omega
theorem shl_sm {v c m:Int} (hc:0<=c) (hm:0<=m/\m<=64) (h:v=binE .shl .u64 c m) (hlt:c*2^m.toNat<18446744073709551616):v=c*2^m.toNat:=by
 have h1:=shl_d _ h rfl
 rw [min64 (by omega),Int.natCast_pow] at h1
 have:(0:Int)<=c*2^m.toNat:=Int.mul_nonneg hc (Int.pow_nonneg (by decide))
 rw [h1]
 show c*2^m.toNat%18446744073709551616=_
 exact Int.emod_eq_of_lt this hlt
theorem put_byte {q i k r m s sh v c p0 p1 p2 p3 p4 p5:Int} (hq:0<=q/\q<N384) (hi:0<=i/\i<48) (hk:k=i/8) (hr:r=i%8) (hm:m=8*r) (hc:0<=c/\c<=255)
  (hs:s=([lim q 0,lim q 1,lim q 2,lim q 3,lim q 4,lim q 5]:List Int).getD k.toNat 0) (hsh:sh=binE .shl .u64 c m) (hv:v=binE .or .u64 s sh)
  (h0:p0=if k=((0:Nat):Int) then v else lim q 0) (h1:p1=if k=((1:Nat):Int) then v else lim q 1) (h2:p2=if k=((2:Nat):Int) then v else lim q 2) (h3:p3=if k=((3:Nat):Int) then v else lim q 3) (h4:p4=if k=((4:Nat):Int) then v else lim q 4) (h5:p5=if k=((5:Nat):Int) then v else lim q 5)
  {Q:Int} (hd:q=2^(8*(i+1).toNat)*Q) (hQ:0<=Q):joinE [p0,p1,p2,p3,p4,p5]=q+c*2^(8*i.toNat):=by
 have hsl:=selW (by omega) hs
 have hpr:(0:Int)<2^(8*r.toNat):=Int.pow_pos (by decide)
 have e8:(2:Int)^(8*r.toNat+8)=2^(8*r.toNat)*256:=by rw [Int.pow_add];rfl
 have e1:q/2^(64*k.toNat)=2^(8*r.toNat+8)*Q:=by
  rw [hd,show 8*(i+1).toNat=64*k.toNat+(8*r.toNat+8) by omega,Int.pow_add,Int.mul_assoc]
  exact Int.mul_ediv_cancel_left _ (Int.ne_of_gt (Int.pow_pos (by decide)))
 have e2:(18446744073709551616:Int)=2^(8*r.toNat+8)*2^(56-8*r.toNat):=by
  rw [<- Int.pow_add,show 8*r.toNat+8+(56-8*r.toNat)=64 by omega,p64']
 have e3:s=2^(8*r.toNat+8)*(Q%2^(56-8*r.toNat)):=by
  rw [hsl,lim_div,e1,e2,Int.mul_emod_mul_of_pos _ _ (by rw [e8];omega)]
 have hp2:(0:Int)<2^(56-8*r.toNat):=Int.pow_pos (by decide)
 have hw0:=Int.emod_nonneg Q (show (2:Int)^(56-8*r.toNat)≠0 by omega)
 have hw1:=Int.emod_lt_of_pos Q hp2
 have h6:2^(8*r.toNat+8)*(Q%2^(56-8*r.toNat)+1)<=2^(8*r.toNat+8)*2^(56-8*r.toNat):=Int.mul_le_mul_of_nonneg_left (by omega) (by rw [e8];omega)
 rw [<- e2,Int.mul_add,<- e3,Int.mul_one,e8] at h6
 have hcb:c*2^(8*r.toNat)<=255*2^(8*r.toNat):=Int.mul_le_mul_of_nonneg_right hc.2 (by omega)
 have hs0:0<=s:=by rw [hsl];exact (lim_lt q _).1
 have hc0:0<=c*2^(8*r.toNat):=Int.mul_nonneg hc.1 (by omega)
 have hm':m.toNat=8*r.toNat:=by omega
 have hsh':=shl_sm hc.1 (by omega) hsh (by rw [hm'];omega)
 rw [hm'] at hsh'
 have hvs:v=s+c*2^(8*r.toNat):=by
  rw [hsh'] at hv
  refine or_dis (k:=8*r.toNat+8) (q:=Q%2^(56-8*r.toNat)) hv (by rw [Int.natCast_pow,e3,Int.mul_comm];rfl) hw0 ⟨hc0,?_⟩ (by omega)
  rw [Int.natCast_pow]
  show _<(2:Int)^(8*r.toNat+8)
  rw [e8];omega
 have:=put_joinW (d:=c*2^(8*r.toNat)) hq (by omega) (hvs.trans (by rw [hsl])) h0 h1 h2 h3 h4 h5
 rw [this,Int.mul_assoc,<- Int.pow_add,show 8*r.toNat+64*k.toNat=8*i.toNat by omega]
noncomputable def kWRead (f:FuncId):K:={fn:=f,ext:=false,ins:=[.lst (.int .u8)],outs:=[oN,oI],pre:=fun _=>True,sem:=fun | [l]=>if (dec l).length<=48 then [readV (dec l),0] else [0,3] | _=>[] }
theorem readV_app (l:List Int) (c:Int):readV (l++[c])=256*readV l+c:=by simp [readV]
theorem readV_take {l:List Int} {i:Nat} (h:i<l.length):readV (l.take (i+1))=256*readV (l.take i)+l.getD i 0:=by
 rw [List.take_succ_eq_append_getElem h,readV_app,List.getD_eq_getElem?_getD,List.getElem?_eq_getElem h];rfl
theorem readV_rng {l:List Int} (h:∀ z∈l,(0:Int)<=z/\z<=255):0<=readV l/\readV l<2^(8*l.length):=by
 suffices hs:∀ n,n<=l.length->0<=readV (l.take n)/\readV (l.take n)<2^(8*n) by
  have:=hs l.length (Nat.le_refl _)
  rwa [List.take_of_length_le (Nat.le_refl _)] at this
 intro n
 induction n with
 | zero=>intro _;exact ⟨Int.le_refl _,(show (0:Int)<1 by decide)⟩
 | succ n ih =>
  intro hn
  obtain ⟨h1,h2⟩:=ih (by omega)
  have hz:=h _ (List.getElem_mem (show n<l.length by omega))
  rw [readV_take (by omega),List.getD_eq_getElem?_getD,List.getElem?_eq_getElem (by omega),Option.getD_some,show 8*(n+1)=8*n+8 by omega,Int.pow_add,show (2:Int)^8=256 from rfl]
  omega
theorem b_has {l:List Int} (h:(LK.int .u8).hasL l) {i:Nat} (hi:i<l.length):0<=l.getD i 0/\l.getD i 0<=255:=by
 rw [List.getD_eq_getElem?_getD,List.getElem?_eq_getElem hi]
 exact h.2 _ (List.getElem_mem hi)
theorem read_step {l:List Int} {i:Nat} {o o':Int} (hl:(LK.int .u8).hasL l) (hi:i<l.length) (ho:o=readV (l.take i)*2^(8*(l.length-i))) (ho':o'=o+l.getD i 0*2^(8*(l.length-1-i))):o'=readV (l.take (i+1))*2^(8*(l.length-(i+1))):=by
 rw [ho',ho,readV_take hi,show 8*(l.length-i)=8*(l.length-1-i)+8 by omega,show 8*(l.length-(i+1))=8*(l.length-1-i) by omega,Int.pow_add,show (2:Int)^8=256 from rfl]
 generalize (2:Int)^(8*(l.length-1-i))=z
 grind
theorem read_div {l:List Int} {i:Nat} {o:Int} (hi:i<l.length) (ho:o=readV (l.take i)*2^(8*(l.length-i))) {k:Int} (hk:k=l.length-1-i):o=2^(8*(k+1).toNat)*readV (l.take i):=by
 rw [ho,Int.mul_comm,show l.length-i=(k+1).toNat by omega]
theorem take_all {l:List Int} (h:(LK.int .u8).hasL l) (n:Nat):0<=readV (l.take n):=(readV_rng fun z hz=>h.2 z (List.mem_of_mem_take hz)).1
def tWRead:Tree:=(.lett 1 (.int .i64) (.llen (.var 0))
(.lett 2 .bit (.cmp .gtr (.var 1) (.lit 48))
(.split 2
(.ret [.lit 0,.lit 3])
(.lett 3 (.int .i64) (.llen (.var 0))
(.loop [.lit 0,.lit 0] [(.int .i64),.num] 4
(.lett 6 .bit (.cmp .lss (.var 4) (.var 3))
(.split 6
 (.lett 7 (.int .i64) (.llen (.var 0))
 (.lett 8 .bit (.cmp .leq (.lit 0) (.var 4))
 (.lett 9 .bit (.cmp .lss (.var 4) (.var 7))
 (.nz (.var 8)
 (.nz (.var 9)
 (.lett 10 (.int .u8) (.lget (.var 0) (.var 4))
 (.lett 11 (.int .i64) (.llen (.var 0))
 (.lett 12 (.int .i64) (.bin .sub .i64 (.var 11) (.lit 1))
 (.lett 13 (.int .i64) (.bin .sub .i64 (.var 12) (.var 4))
 (.lett 62 (.int .i64) (.bin .quo .i64 (.var 13) (.lit 8))
 (.lett 110 .bit (.cmp .leq (.lit 0) (.var 62))
 (.lett 111 .bit (.cmp .lss (.var 62) (.lit 6))
 (.nz (.var 110)
 (.nz (.var 111)
 (.lett 158 (.int .u64) (.sel (.var 62) [.limb 5 0,.limb 5 1,.limb 5 2,.limb 5 3,.limb 5 4,.limb 5 5])
 (.lett 350 (.int .i64) (.bin .rem .i64 (.var 13) (.lit 8))
 (.lett 398 (.int .i64) (.bin .mul .i64 (.lit 8) (.var 350))
 (.lett 446 .bit (.cmp .leq (.lit 0) (.var 398))
 (.lett 447 (.int .u64) (.bin .shl .u64 (.var 10) (.var 398))
 (.nz (.var 446)
 (.lett 494 (.int .u64) (.bin .or .u64 (.var 158) (.var 447))
 (.lett 542 .bit (.cmp .leq (.lit 0) (.var 62))
 (.lett 543 .bit (.cmp .lss (.var 62) (.lit 6))
 (.nz (.var 542)
 (.nz (.var 543)
 (.lett 590 (.int .u64) (.put (.var 62) 0 (.var 494) (.limb 5 0))
 (.lett 591 (.int .u64) (.put (.var 62) 1 (.var 494) (.limb 5 1))
 (.lett 592 (.int .u64) (.put (.var 62) 2 (.var 494) (.limb 5 2))
 (.lett 593 (.int .u64) (.put (.var 62) 3 (.var 494) (.limb 5 3))
 (.lett 594 (.int .u64) (.put (.var 62) 4 (.var 494) (.limb 5 4))
 (.lett 595 (.int .u64) (.put (.var 62) 5 (.var 494) (.limb 5 5))
 (.lett 638 (.int .i64) (.bin .add .i64 (.var 4) (.lit 1))
 (.lett 639 .num (.join [.var 590,.var 591,.var 592,.var 593,.var 594,.var 595])
 (.back 0 [.var 638,.var 639]))))))))))))))))))))))))))))))))))
 (.ret [.var 5,.lit 0]))))))))
theorem law_wRead (f:FuncId) (e:Nat->Int) (hk:kkHas [.lst (.int .u8)] [e 0]):tWRead.says [] ⟨fun ys=>ys=(kWRead f).sem [e 0],[]⟩ e:=by
 obtain ⟨l,d0⟩:∃ l,dec (e 0)=l:=⟨_,rfl⟩
 have hl:(LK.int .u8).hasL l:=by rw [<- d0];exact hk.1
 show tWRead.says _ ⟨fun ys=>ys=if (dec (e 0)).length<=48 then [readV (dec (e 0)),0] else [0,3],[]⟩ e
 rw [d0]
 clear hk
 intro a1 _ a2 _
 have v1:e 1=(l.length:Int):=by rw [<- d0];exact a1
 have b2:=c_gt a2
 simp only [ev_var,ev_lit] at b2
 refine ⟨fun h=>?_,fun h=>?_⟩
 ·have:=b_yes b2 h
  rw [if_neg (by omega)];rfl
 have hn:l.length<=48:=by have:=b_no b2 h;omega
 rw [if_pos hn]
 intro a3 _
 have v3:e 3=(l.length:Int):=by rw [<- d0];exact a3
 refine ⟨fun | [i,o]=>(0<=i/\i<=l.length)/\o=readV (l.take i.toNat)*2^(8*(l.length-i.toNat)) | _=>False,fun | [i,_]=>(l.length-i).toNat | _=>0,⟨⟨Int.le_refl _,(show (0:Int)<=l.length by omega)⟩,(show (0:Int)=0*_ by rw [Int.zero_mul])⟩,fun e' he hkk hI=>?_⟩
 obtain ⟨⟨i0,i1⟩,q5⟩:(0<=e' 4/\e' 4<=l.length)/\e' 5=readV (l.take (e' 4).toNat)*2^(8*(l.length-(e' 4).toNat)):=hI
 have k5:0<=e' 5/\e' 5<N384:=hkk.2.1
 have d0:=(congrArg dec (he 0 (by decide))).trans d0
 have v3:=(he 3 (by decide)).trans v3
 clear he hkk a1 a2 a3 v1 b2 h
 intro a6 _
 have b6:=c_lt a6
 simp only [ev_var] at b6
 refine ⟨fun h=>?_,fun h=>?_⟩
 ·have c6:e' 4<l.length:=by have:=b_yes b6 h;omega
  intro a7 _ a8 _ a9 _
  have v7:e' 7=(l.length:Int):=by rw [<- d0];exact a7
  refine ⟨bit_nz a8 i0,lt_nz a9 (by show e' 4<e' 7;omega),fun a10 _ a11 _ a12 _ a13 _ a62 _ a110 _ a111 _=>?_⟩
  have v10:e' 10=l.getD (e' 4).toNat 0:=by rw [<- d0];exact a10
  have v11:e' 11=(l.length:Int):=by rw [<- d0];exact a11
  have v12:=sub_ (a:=e' 11) (b:=1) a12 (by omega)
  have v13:=sub_ (a:=e' 12) (b:=e' 4) a13 (by omega)
  have v62:=quo_ (i:=e' 13) 8 (by decide) (by omega) a62
  refine ⟨bit_nz a110 (by show 0<=e' 62;omega),lt_nz a111 (by show e' 62<6;omega),fun a158 _ a350 _ a398 _ a446 _ a447 _=>?_⟩
  have v350:=rem_ (i:=e' 13) 8 (by omega) a350
  have v398:=mul8 (r:=e' 350) (by omega) a398
  refine ⟨bit_nz a446 (by show 0<=e' 398;omega),fun a494 _ a542 _ a543 _=>⟨bit_nz a542 (by show 0<=e' 62;omega),lt_nz a543 (by show e' 62<6;omega),fun a590 _ a591 _ a592 _ a593 _ a594 _ a595 _ a638 _ a639 _=>?_⟩⟩
  have hc:=b_has hl (i:=(e' 4).toNat) (by omega)
  rw [<- v10] at hc
  have hp:=put_byte k5 (i:=e' 13) (by omega) v62 v350 v398 hc a158 a447 a494 a590 a591 a592 a593 a594 a595 (read_div (by omega) q5 (by omega)) (take_all hl _)
  have v638:=add_ (a:=e' 4) (b:=1) a638 (by omega)
  show ((0<=e' 638/\e' 638<=l.length)/\e' 639=readV (l.take (e' 638).toNat)*2^(8*(l.length-(e' 638).toNat)))/\(l.length-e' 638).toNat<(l.length-e' 4).toNat
  refine ⟨⟨by omega,?_⟩,by omega⟩
  rw [show (e' 638).toNat=(e' 4).toNat+1 by omega]
  refine read_step hl (by omega) q5 ?_
  rw [<- v10,show l.length-1-(e' 4).toNat=(e' 13).toNat by omega]
  exact (show e' 639=joinE [e' 590,e' 591,e' 592,e' 593,e' 594,e' 595] from a639).trans hp
 ·have c6:e' 4=l.length:=by have:=b_no b6 h;omega
  show [e' 5,0]=[readV l,0]
  rw [q5,c6,Int.toNat_natCast,List.take_of_length_le (Nat.le_refl _),Nat.sub_self,Nat.mul_zero,Int.pow_zero,Int.mul_one]
end Go.Sx


namespace Go.Sx
open Go Go.RowKit
set_option maxRecDepth 100000
theorem le_nz {v w b:Int} (h:v=b2i (cmpE .leq w b)) (hw:w<=b):v≠0:=by have:=c_le h;omega
end Go.Sx







namespace Go.Sx
open Go Go.RowKit
set_option maxRecDepth 100000
def pL (s:Int):Int:=if s=1 then 786251 else 1152921504606846223
def kNever (f:FuncId) (ins:List Sh) (outs:List Oh):K:={fn:=f,ext:=false,ins:=ins,outs:=outs,pre:=fun _=>False,sem:=fun _=>[] }
theorem ok_never (P:Program) (f:FuncId) (ins:List Sh) (outs:List Oh):(kNever f ins outs).ok P:=fun _ _ _ _ _ hpre=>hpre.elim
def isL (s:Int):Prop:=s=1∨s=2
def cvL (s:Int):List Int:=if s=1 then [786251,65521,12,9723,164643,0,1] else if s=2 then [1152921504606846223,72057594037927889,16,613740293506734924,666621259561003659,0,1] else [0,0,0,0,0,0,0]
def kLOf (f:FuncId):K:={fn:=f,ext:=false,ins:=[iI],outs:=[.agg [.int .u64,.int .u64,.int .u64,.int .u64,.int .u64,.bool],oB],pre:=fun _=>True,sem:=fun | [s]=>cvL s | _=>[] }
def tLOf:Tree:=(.lett 1 .bit (.cmp .eql (.var 0) (.lit 1))
(.split 1
(.ret [.lit 786251,.lit 65521,.lit 12,.lit 9723,.lit 164643,.lit 0,.lit 1])
(.lett 2 .bit (.cmp .eql (.var 0) (.lit 2))
(.split 2
 (.ret [.lit 1152921504606846223,.lit 72057594037927889,.lit 16,.lit 613740293506734924,.lit 666621259561003659,.lit 0,.lit 1])
 (.ret [.lit 0,.lit 0,.lit 0,.lit 0,.lit 0,.lit 0,.lit 0])))))
theorem law_lOf (f:FuncId) (e:Nat->Int):tLOf.says [] ⟨fun ys=>ys=(kLOf f).sem [e 0],[]⟩ e:=by
 show tLOf.says _ ⟨fun ys=>ys=cvL (e 0),[]⟩ e
 intro a1 _
 have b1:=c_eq a1
 refine ⟨fun h=>?_,fun h=>?_⟩
 ·show _=cvL (e 0)
  unfold cvL
  rw [if_pos (show e 0=1 from b_yes b1 h)];rfl
 ·intro a2 _
  have b2:=c_eq a2
  have n1:¬ e 0=1:=b_no b1 h
  refine ⟨fun h=>?_,fun h=>?_⟩
  ·show _=cvL (e 0)
   unfold cvL
   rw [if_neg n1,if_pos (show e 0=2 from b_yes b2 h)];rfl
  ·show _=cvL (e 0)
   unfold cvL
   rw [if_neg n1,if_neg (show ¬ e 0=2 from b_no b2 h)];rfl
theorem pL_ok (s:Int):pOk (pL s):=by
 unfold pL;split <;> exact ⟨by decide,by decide⟩
theorem cvL_t {s:Int} (h:isL s):cvL s=[pL s,rOf s,if s=1 then 12 else 16,if s=1 then 9723 else 613740293506734924,if s=1 then 164643 else 666621259561003659,0,1]:=by
 rcases h with rfl | rfl <;> rfl
theorem bi_bj {p:Prop} [Decidable p]:bi p=bj p:=by
 by_cases h:p
 ·rw [bj_t h];exact if_pos h
 ·rw [bj_f h];exact if_neg h
noncomputable def kLMul2 (f:FuncId):K:={fn:=f,ext:=false,ins:=[iI,iPt,iU],outs:=[.agg [.int .u64,.int .u64,.bool],oI],pre:=fun | [s,x,y,z,_]=>isL s/\onP (pL s) x y z | _=>False,sem:=fun | [s,x,y,z,n]=>(mulP (pL s) ⟨x,y,z⟩ 64 n.toNat).l++[0] | _=>[] }
theorem on_lt {p x y z:Int} (hp:0<p) (h:onP p x y z):x<p/\y<p:=by
 unfold onP at h
 split at h <;> omega
def tLMul2:Tree:=(.req 0 [.var 0]
(.lett 5 (.int .u64) (.app 0 0 [.var 0])
(.lett 6 (.int .u64) (.app 0 1 [.var 0])
(.lett 7 (.int .u64) (.app 0 2 [.var 0])
(.lett 8 (.int .u64) (.app 0 3 [.var 0])
(.lett 9 (.int .u64) (.app 0 4 [.var 0])
(.lett 10 .bit (.app 0 5 [.var 0])
(.lett 11 .bit (.app 0 6 [.var 0])
(.lett 12 .bit (.not (.var 11))
(.split 12
(.ret [.lit 0,.lit 0,.lit 0,.lit 2])
(.req 1 [.var 5,.var 6,.var 7,.var 8,.var 9,.var 10,.var 1,.var 2,.var 3]
(.lett 13 .bit (.app 1 0 [.var 5,.var 6,.var 7,.var 8,.var 9,.var 10,.var 1,.var 2,.var 3])
(.lett 14 .bit (.not (.var 13))
(.split 14
 (.ret [.lit 0,.lit 0,.lit 0,.lit 5])
 (.req 2 [.var 5,.var 6,.var 7,.var 8,.var 9,.var 10,.var 1,.var 2,.var 3,.var 4]
 (.lett 15 (.int .u64) (.app 2 0 [.var 5,.var 6,.var 7,.var 8,.var 9,.var 10,.var 1,.var 2,.var 3,.var 4])
 (.lett 16 (.int .u64) (.app 2 1 [.var 5,.var 6,.var 7,.var 8,.var 9,.var 10,.var 1,.var 2,.var 3,.var 4])
 (.lett 17 .bit (.app 2 2 [.var 5,.var 6,.var 7,.var 8,.var 9,.var 10,.var 1,.var 2,.var 3,.var 4])
 (.ret [.var 15,.var 16,.var 17,.lit 0])))))))))))))))))))
theorem law_lMul2 (f1 f2 f3 f:FuncId) (e:Nat->Int) (hp:(kLMul2 f).pre [e 0,e 1,e 2,e 3,e 4]):tLMul2.says [kLOf f1,kLOn f2,kLTimes f3] ⟨fun ys=>ys=(kLMul2 f).sem [e 0,e 1,e 2,e 3,e 4],[]⟩ e:=by
 obtain ⟨hl,ho⟩:isL (e 0)/\onP (pL (e 0)) (e 1) (e 2) (e 3):=hp
 have hok:=pL_ok (e 0)
 show tLMul2.says _ ⟨fun ys=>ys=(mulP (pL (e 0)) ⟨e 1,e 2,e 3⟩ 64 (e 4).toNat).l++[0],[]⟩ e
 refine ⟨trivial,fun a5 _ a6 _ a7 _ a8 _ a9 _ a10 _ a11 _ a12 _=>?_⟩
 have v5:e 5=pL (e 0):=by rw [show e 5=(cvL (e 0)).getD 0 0 from a5,cvL_t hl];rfl
 have v11:e 11=1:=by rw [show e 11=(cvL (e 0)).getD 6 0 from a11,cvL_t hl];rfl
 have b12:=c_not a12
 simp only [ev_var] at b12
 refine ⟨fun h=>by omega,fun _=>⟨(by show pOk (e 5);rw [v5];exact hok),fun a13 _ a14 _=>?_⟩⟩
 have v13:e 13=bi (onP (e 5) (e 1) (e 2) (e 3)):=a13
 rw [v5,bi_bj,bj_t ho] at v13
 have b14:=c_not a14
 simp only [ev_var] at b14
 have hlt:=on_lt (show 0<pL (e 0) by have:=hok.1;omega) ho
 refine ⟨fun h=>by omega,fun _=>⟨(by show pOk (e 5)/\e 1<e 5/\e 2<e 5;rw [v5];exact ⟨hok,hlt.1,hlt.2⟩),fun a15 _ a16 _ a17 _=>?_⟩⟩
 have hs:[e 15,e 16,e 17]=(mulP (e 5) ⟨e 1,e 2,e 3⟩ 64 (e 4).toNat).l:=by
  rw [show e 15=_ from a15,show e 16=_ from a16,show e 17=_ from a17];rfl
 rw [v5] at hs
 show [e 15,e 16,e 17,0]=_
 rw [<- hs];rfl
end Go.Sx








namespace Go.Sx
open Go Go.RowKit
set_option maxRecDepth 100000
namespace Sha
def rot (x n:Int):Int:=binE .or .u32 (binE .shr .u32 x n) (binE .shl .u32 x (32-n))
theorem or_comm (k:IntKind) (a b:Int):binE .or k a b=binE .or k b a:=by
 simp only [binE,BitVec.or_comm]
def kRot (f:FuncId):K:={fn:=f,ext:=false,ins:=[.one (.int .u32),.one (.int .i64)],outs:=[.one (.int .u32)],pre:=fun | [_,n]=>1<=n/\n<=31 | _=>False,sem:=fun | [x,n]=>[rot x n] | _=>[] }
theorem and31:∀ n:Int,1<=n->n<=31->binE .and .u64 (wr .u64 (wr .i64 (0-n))) 31=32-n:=by
 intro n h1 h2
 have h:n=1∨n=2∨n=3∨n=4∨n=5∨n=6∨n=7∨n=8∨n=9∨n=10∨n=11∨n=12∨n=13∨n=14∨n=15∨n=16∨n=17∨n=18∨n=19∨n=20∨n=21∨n=22∨n=23∨n=24∨n=25∨n=26∨n=27∨n=28∨n=29∨n=30∨n=31:=by omega
 rcases h with rfl | rfl | rfl | rfl | rfl | rfl | rfl | rfl | rfl | rfl | rfl | rfl | rfl | rfl | rfl | rfl | rfl | rfl | rfl | rfl | rfl | rfl | rfl | rfl | rfl | rfl | rfl | rfl | rfl | rfl | rfl <;> decide
def tDright:Tree:=(.lett 2 (.int .i64) (.bin .sub .i64 (.lit 0) (.var 1))
(.lett 3 (.int .u64) (.conv .u64 (.var 2))
(.lett 4 (.int .u64) (.bin .and .u64 (.var 3) (.lit 31))
(.lett 5 (.int .u32) (.bin .shl .u32 (.var 0) (.var 4))
(.lett 6 (.int .u64) (.bin .sub .u64 (.lit 32) (.var 4))
(.lett 7 (.int .u32) (.bin .shr .u32 (.var 0) (.var 6))
(.lett 8 (.int .u32) (.bin .or .u32 (.var 5) (.var 7))
(.ret [.var 8]))))))))
theorem law_dright (f:FuncId) (e:Nat->Int) (h1:1<=e 1) (h2:e 1<=31):tDright.says [] ⟨fun ys=>ys=[rot (e 0) (e 1)],[]⟩ e:=by
 intro a1 _ a2 _ a3 _ a4 _ a5 _ a6 _ a7 _
 have c1:e 2=wr .i64 (0-e 1):=a1
 have c2:e 3=wr .u64 (e 2):=a2
 have c3:e 4=binE .and .u64 (e 3) 31:=a3
 have c4:e 5=binE .shl .u32 (e 0) (e 4):=a4
 have c5:e 6=wr .u64 (32-e 4):=a5
 have c6:e 7=binE .shr .u32 (e 0) (e 6):=a6
 have c7:e 8=binE .or .u32 (e 5) (e 7):=a7
 have d3:e 4=32-e 1:=by rw [c3,c2,c1];exact and31 _ h1 h2
 have d5:e 6=e 1:=by rw [c5,d3];simp only [wr];omega
 show [e 8]=_
 rw [c7,c4,c6,d3,d5,or_comm];rfl
end Sha
namespace Sha
def sh8 (a p:Int):Int:=binE .or .u32 (binE .shl .u32 a 8) p
def word4 (b0 b1 b2 b3:Int):Int:=binE .or .u32 (binE .or .u32 (binE .or .u32 (binE .shl .u32 b0 24) (binE .shl .u32 b1 16)) (binE .shl .u32 b2 8)) b3
def ad (a b:Int):Int:=binE .add .u32 a b
def xo (a b:Int):Int:=binE .xor .u32 a b
def an (a b:Int):Int:=binE .and .u32 a b
def s0 (x:Int):Int:=xo (xo (rot x 7) (rot x 18)) (binE .shr .u32 x 3)
def s1 (y:Int):Int:=xo (xo (rot y 17) (rot y 19)) (binE .shr .u32 y 10)
def sch1 (b:Nat->Int) (w:List Int) (t:Nat):Int :=
 if t<16 then word4 (b (4*t)) (b (4*t+1)) (b (4*t+2)) (b (4*t+3))
 else ad (ad (ad (s1 (w.getD (t-2) 0)) (w.getD (t-7) 0)) (s0 (w.getD (t-15) 0))) (w.getD (t-16) 0)
def sch (b:Nat->Int):Nat->List Int
 | 0=>List.replicate 64 0
 | t+1=>(sch b t).set t (sch1 b (sch b t) t)
theorem sch_len (b:Nat->Int):∀ t,(sch b t).length=64
 | 0=>by simp [sch]
 | t+1=>by simp only [sch,List.length_set,sch_len b t]
def rp (k w:Int) (v:Nat->Int):Int :=
 ad (ad (ad (ad (v 7) (xo (xo (rot (v 4) 6) (rot (v 4) 11)) (rot (v 4) 25))) (xo (an (v 4) (v 5)) (an (xo 4294967295 (v 4)) (v 6)))) k) w
def rq (v:Nat->Int):Int :=
 ad (xo (xo (rot (v 0) 2) (rot (v 0) 13)) (rot (v 0) 22)) (xo (xo (an (v 0) (v 1)) (an (v 0) (v 2))) (an (v 1) (v 2)))
def rnd (k w:Int) (l:List Int):List Int :=
 let v:=fun i=>l.getD i 0
 [ad (rp k w v) (rq v),v 0,v 1,v 2,ad (v 3) (rp k w v),v 4,v 5,v 6]
def rnds (K:List Int) (w:List Int) (h:List Int):Nat->List Int
 | 0=>h
 | t+1=>rnd (K.getD t 0) (w.getD t 0) (rnds K w h t)
def blk (K h:List Int) (b:Nat->Int):List Int :=
 let x:=rnds K (sch b 64) h 64
 [ad (h.getD 0 0) (x.getD 0 0),ad (h.getD 1 0) (x.getD 1 0),ad (h.getD 2 0) (x.getD 2 0),ad (h.getD 3 0) (x.getD 3 0),ad (h.getD 4 0) (x.getD 4 0),ad (h.getD 5 0) (x.getD 5 0),ad (h.getD 6 0) (x.getD 6 0),ad (h.getD 7 0) (x.getD 7 0)]
theorem sch_congr {b c:Nat->Int} (h:∀ i,i<64->b i=c i):∀ t,sch b t=sch c t
 | 0=>rfl
 | t+1=>by
  simp only [sch,sch_congr h t]
  congr 1
  unfold sch1
  split
  ·rw [h _ (by omega),h _ (by omega),h _ (by omega),h _ (by omega)]
  ·rfl
theorem blk_congr {K s:List Int} {b c:Nat->Int} (h:∀ i,i<64->b i=c i):blk K s b=blk K s c:=by
 simp only [blk,sch_congr h]
def run (K h:List Int) (b:Nat->Int):Nat->List Int
 | 0=>h
 | j+1=>blk K (run K h b j) fun i=>b (64*j+i)
theorem run_congr {K h:List Int} {b c:Nat->Int}:∀ (n:Nat),(∀ i,i<64*n->b i=c i)->run K h b n=run K h c n
 | 0,_=>rfl
 | n+1,hh=>by
  simp only [Sha.run]
  rw [run_congr n fun i hi=>hh i (by omega)]
  exact blk_congr fun i hi=>hh _ (by omega)
end Sha
namespace Sha
theorem yes_ {v:Int} {p q:Prop} (h:v≠0) (b:(v=1/\p)∨(v=0/\q)):p:=by rcases b with ⟨_,hp⟩ | ⟨h0,_⟩;exact hp;exact absurd h0 h
theorem no_ {v:Int} {p q:Prop} (h:v=0) (b:(v=1/\p)∨(v=0/\q)):q:=by rcases b with ⟨h1,_⟩ | ⟨_,hq⟩;omega;exact hq
theorem nz_ {v:Int} {p q:Prop} (b:(v=1/\p)∨(v=0/\q)) (hq:¬ q):v≠0:=by
 rcases b with ⟨h,_⟩ | ⟨_,h⟩
 ·omega
 ·exact absurd h hq
theorem t64 {l:List Int} (h:l.length=64):(l.take (64:Int).toNat).drop (0:Int).toNat=l:=by
 rw [show (0:Int).toNat=0 from rfl,List.drop_zero,show (64:Int).toNat=64 from rfl,List.take_of_length_le (by omega)]
theorem t8 {l:List Int} (h:l.length=8):(l.take (8:Int).toNat).drop (0:Int).toNat=l:=by
 rw [show (0:Int).toNat=0 from rfl,List.drop_zero,show (8:Int).toNat=8 from rfl,List.take_of_length_le (by omega)]
theorem getset {l:List Int} {t:Nat} {x:Int} (h:t<l.length):(l.set t x).getD t 0=x:=by
 rw [List.getD_eq_getElem?_getD,List.getElem?_set_self h];rfl
def hor (b:Nat->Int) (i:Nat):Nat->Int
 | 0=>0
 | j+1=>sh8 (hor b i j) (b (i+j))
end Sha
namespace Sha
def K0:List Int:=[1116352408,1899447441,3049323471,3921009573,961987163,1508970993,2453635748,2870763221,3624381080,310598401,607225278,1426881987,1925078388,2162078206,2614888103,3248222580,3835390401,4022224774,264347078,604807628,770255983,1249150122,1555081692,1996064986,2554220882,2821834349,2952996808,3210313671,3336571891,3584528711,113926993,338241895,666307205,773529912,1294757372,1396182291,1695183700,1986661051,2177026350,2456956037,2730485921,2820302411,3259730800,3345764771,3516065817,3600352804,4094571909,275423344,430227734,506948616,659060556,883997877,958139571,1322822218,1537002063,1747873779,1955562222,2024104815,2227730452,2361852424,2428436474,2756734187,3204031479,3329325298]
def H0:List Int:=[1779033703,3144134277,1013904242,2773480762,1359893119,2600822924,528734635,1541459225]
def eight (n:Int):List Int:=[56,48,40,32,24,16,8,0].map fun s=>wr .u8 (binE .shr .u64 n s)
def zpad (l:List Int):List Int:=l++List.replicate ((120-l.length%64)%64) 0
def out8 (h:List Int):List Int:=[0,1,2,3,4,5,6,7].flatMap fun j=>[24,16,8,0].map fun s=>wr .u8 (binE .shr .u32 (h.getD j 0) s)
def padded (b:List Int):List Int:=zpad (b++[128])++eight (8*(b.length:Int))
def sha (b:List Int):List Int:=out8 (Sha.run K0 H0 (fun i=>(padded b).getD i 0) ((padded b).length/64))
noncomputable def kSum (f:FuncId):K:={fn:=f,ext:=false,ins:=[.lst (.int .u8)],outs:=[.agg [.arr .u8 32]],pre:=fun | [x]=>(dec x).length<1073741824 | _=>False,sem:=fun | [x]=>[enc (sha (dec x))] | _=>[] }
end Sha
namespace Sha
theorem eight_len (n:Int):(eight n).length=8:=by simp [eight]
theorem blk_len (K h:List Int) (b:Nat->Int):(blk K h b).length=8:=by simp [blk]
theorem run_len {K h:List Int} (b:Nat->Int) (hh:h.length=8):∀ n,(Sha.run K h b n).length=8
 | 0=>hh
 | n+1=>blk_len _ _ _
theorem H0_len:H0.length=8:=rfl
end Sha
end Go.Sx
