/- Part Ni of the proof. -/
import Derived.Test.YtjkkfifojkfnjaaGreatDoorNh
import Derived.Laws.Externs
import Derived.Shelf.Spec.BitsCarry
set_option linter.unusedVariables false
set_option linter.unusedSimpArgs false
namespace Go.Sx
open Go Go.RowKit
abbrev iU:Sh:=.one (.int .u64)
abbrev oU:Oh:=.one (.int .u64)
abbrev iN:Sh:=.agg [.num]
abbrev oN:Oh:=.agg [.num]
abbrev oB:Oh:=.one .bool
abbrev iI:Sh:=.one (.int .i64)
abbrev oI:Oh:=.one (.int .i64)
def kAdd64 (f:FuncId):K:={fn:=f,ext:=true,ins:=[iU,iU,iU],outs:=[oU,oU],pre:=fun | [_,_,c]=>0<=c/\c<=1 | _=>False,sem:=fun | [x,y,c]=>[(x+y+c)%18446744073709551616,(x+y+c)/18446744073709551616] | _=>[] }
def kSub64 (f:FuncId):K:={fn:=f,ext:=true,ins:=[iU,iU,iU],outs:=[oU,oU],pre:=fun | [_,_,c]=>0<=c/\c<=1 | _=>False,sem:=fun | [x,y,c]=>[(x-y-c)%18446744073709551616,if x<y+c then 1 else 0] | _=>[] }
section
variable {P:Program} {f:FuncId} {fn:Func}
theorem in_int {w:World} {k:IntKind} {ss:List Sh} {xs:List Int} {args:List Value} (h:insRel w (.one (.int k)::ss) xs args):∃ x xs' args',xs=x::xs'/\args=.int k x::args'/\has k x/\insRel w ss xs' args':=by
 cases args with
 | nil=>exact h.elim
 | cons v args =>
  obtain ⟨h1,h2,h3⟩:=h
  cases xs with
  | nil=>exact h1.elim
  | cons x xs =>
   have h2':[v]=[Value.int k x]:=h2
   simp only [List.cons.injEq,and_true] at h2'
   exact ⟨x,xs,args,rfl,by rw [h2'],h1.1,h3⟩
theorem in_nil {w:World} {xs:List Int} {args:List Value} (h:insRel w [] xs args):xs=[]/\args=[]:=h
theorem ok_add64 (hf:P.funcs[f]?=some fn) (h1:(fn.name == "runtime.NumGoroutine")=false) (h2:fn.body.isNone=true) (h3:Extern.findNext fn=none) (h4:Extern.find fn=some add64Entry):(kAdd64 f).ok P:=by
 intro w _ args xs hin hpre
 obtain ⟨x,xs,args,rfl,rfl,hx,hin⟩:=in_int hin
 obtain ⟨y,xs,args,rfl,rfl,hy,hin⟩:=in_int hin
 obtain ⟨c,xs,args,rfl,rfl,hc,hin⟩:=in_int hin
 obtain ⟨rfl,rfl⟩:=in_nil hin
 obtain ⟨c0,c1⟩:0<=c/\c<=1:=hpre
 have hx':=has_u64 hx;have hy':=has_u64 hy
 simp only [kAdd64,if_true]
 refine ⟨[.int .u64 ((x+y+c)%18446744073709551616),.int .u64 ((x+y+c)/18446744073709551616)],?_,?_⟩
 ·rw [run_callFunc_extern hf h1 h2 h3 h4]
  rw [show ([Value.int .u64 x,.int .u64 y,.int .u64 c]:List Value).toArray=#[.int .u64 x,.int .u64 y,.int .u64 c] from rfl,run_add64 x y c hx'.1 hy'.1 c0 c1]
  rfl
 ·refine ⟨⟨?_,trivial⟩,rfl,⟨?_,trivial⟩,rfl,rfl,rfl⟩ <;> simp only [has,lo,hi] <;> omega
theorem ok_sub64 (hf:P.funcs[f]?=some fn) (h1:(fn.name == "runtime.NumGoroutine")=false) (h2:fn.body.isNone=true) (h3:Extern.findNext fn=none) (h4:Extern.find fn=some Proofs.sub64Entry):(kSub64 f).ok P:=by
 intro w _ args xs hin hpre
 obtain ⟨x,xs,args,rfl,rfl,hx,hin⟩:=in_int hin
 obtain ⟨y,xs,args,rfl,rfl,hy,hin⟩:=in_int hin
 obtain ⟨c,xs,args,rfl,rfl,hc,hin⟩:=in_int hin
 obtain ⟨rfl,rfl⟩:=in_nil hin
 obtain ⟨c0,c1⟩:0<=c/\c<=1:=hpre
 have hx':=has_u64 hx;have hy':=has_u64 hy
 simp only [kSub64,if_true]
 refine ⟨[.int .u64 ((x-y-c)%18446744073709551616),.int .u64 (if x<y+c then 1 else 0)],?_,?_⟩
 ·rw [run_callFunc_extern hf h1 h2 h3 h4]
  obtain ⟨X,rfl⟩:=Int.eq_ofNat_of_zero_le hx'.1
  obtain ⟨Y,rfl⟩:=Int.eq_ofNat_of_zero_le hy'.1
  obtain ⟨k,rfl⟩:=Int.eq_ofNat_of_zero_le c0
  rw [show ([Value.int .u64 X,.int .u64 Y,.int .u64 k]:List Value).toArray=#[.int .u64 X,.int .u64 Y,.int .u64 k] from rfl,Proofs.run_sub64 X Y k (by omega)]
  simp only [Result.andThen,retV]
  have e1:(((X+18446744073709551616-Y-k)%18446744073709551616:Nat):Int)=((X:Int)-Y-k)%18446744073709551616:=by omega
  have e2:((if X<Y+k then 1 else 0:Nat):Int)=if (X:Int)<Y+k then 1 else 0:=by split <;> split <;> omega
  rw [e1,e2]
 ·refine ⟨⟨?_,trivial⟩,rfl,⟨?_,trivial⟩,rfl,rfl,rfl⟩
  ·simp only [has,lo,hi];omega
  ·simp only [has,lo,hi];split <;> omega
end
def bi (p:Prop) [Decidable p]:Int:=if p then 1 else 0
def kWAdd (f:FuncId):K:={fn:=f,ext:=false,ins:=[iN,iN],outs:=[oN,oB],pre:=fun _=>True,sem:=fun | [a,b]=>[(a+b)%N384,(a+b)/N384] | _=>[] }
def kWSub (f:FuncId):K:={fn:=f,ext:=false,ins:=[iN,iN],outs:=[oN,oB],pre:=fun _=>True,sem:=fun | [a,b]=>[(a-b)%N384,bi (a<b)] | _=>[] }
def kWCmp (f:FuncId):K:={fn:=f,ext:=false,ins:=[iN,iN],outs:=[oI],pre:=fun _=>True,sem:=fun | [a,b]=>[if a<b then -1 else if a=b then 0 else 1] | _=>[] }
def kMul64 (f:FuncId):K:={fn:=f,ext:=false,ins:=[iU,iU],outs:=[oU,oU],pre:=fun _=>True,sem:=fun | [a,b]=>[a*b/18446744073709551616,a*b%18446744073709551616] | _=>[] }
abbrev iM:Sh:=.ptr [.num,.int .u64,.num]
def montv (n a b:Int):Int:=a*b*((n+1)/2)^384%n
def mOk (n low:Int):Prop:=n*low%18446744073709551616=18446744073709551615/\3<=n/\n<2^382
def kLess (f:FuncId):K:={fn:=f,ext:=false,ins:=[iM,iN],outs:=[oN],pre:=fun _=>True,sem:=fun | [n,_,_,a]=>[if n<=a then a-n else a] | _=>[] }
def kMont (f:FuncId):K:={fn:=f,ext:=false,ins:=[iM,iN,iN],outs:=[oN],pre:=fun | [n,low,_,a,b]=>mOk n low/\(a<n∨b<n) | _=>False,sem:=fun | [n,_,_,a,b]=>[montv n a b] | _=>[] }
def lim (x:Int) (j:Nat):Int:=x/p64 j%18446744073709551616
theorem ev_lit (e:Nat->Int) (n:Int):A.ev e (.lit n)=n:=rfl
theorem ev_var (e:Nat->Int) (n:Nat):A.ev e (.var n)=e n:=rfl
theorem ev_limb (e:Nat->Int) (n j:Nat):A.ev e (.limb n j)=lim (e n) j:=rfl
theorem lim_lt (x:Int) (j:Nat):0<=lim x j/\lim x j<18446744073709551616:=by unfold lim;omega
theorem lim_0 (x:Int):lim x 0=x%18446744073709551616:=by
 unfold lim
 rw [show p64 0=1 by kernel_rfl,Int.ediv_one]
theorem p64_s (j:Nat):p64 (j+1)=18446744073709551616*p64 j:=by
 have:2^(64*(j+1))=18446744073709551616*2^(64*j):=by rw [Nat.mul_add,Nat.pow_add,Nat.mul_comm]
 simp only [p64,this,Int.natCast_mul];rfl
theorem lim_s (x:Int) (j:Nat):lim x (j+1)=lim (x/18446744073709551616) j:=by
 unfold lim
 rw [p64_s,Int.ediv_ediv_of_nonneg (by omega)]
theorem lim_eq {x:Int} (h:0<=x/\x<N384):x=lim x 0+18446744073709551616*(lim x 1+18446744073709551616*(lim x 2+18446744073709551616*(lim x 3+18446744073709551616*(lim x 4+18446744073709551616*lim x 5)))):=by
 simp only [lim_s,lim_0]
 unfold N384 at h
 omega
theorem joinE6 (a b c d f g:Int):joinE [a,b,c,d,f,g]=a+18446744073709551616*(b+18446744073709551616*(c+18446744073709551616*(d+18446744073709551616*(f+18446744073709551616*g)))):=by
 simp [joinE]
theorem c_lt {v a b:Int} (h:v=b2i (cmpE .lss a b)):(v=1/\a<b)∨(v=0/\¬ a<b):=by
 by_cases hc:a<b <;> simp [cmpE,hc,b2i] at h <;> omega
theorem c_le {v a b:Int} (h:v=b2i (cmpE .leq a b)):(v=1/\a<=b)∨(v=0/\¬ a<=b):=by
 by_cases hc:a<=b <;> simp [cmpE,hc,b2i] at h <;> omega
theorem c_gt {v a b:Int} (h:v=b2i (cmpE .gtr a b)):(v=1/\b<a)∨(v=0/\¬ b<a):=by
 by_cases hc:b<a <;> simp [cmpE,hc,b2i] at h <;> omega
theorem c_ge {v a b:Int} (h:v=b2i (cmpE .geq a b)):(v=1/\b<=a)∨(v=0/\¬ b<=a):=by
 by_cases hc:b<=a <;> simp [cmpE,hc,b2i] at h <;> omega
theorem c_eq {v a b:Int} (h:v=b2i (cmpE .eql a b)):(v=1/\a=b)∨(v=0/\¬ a=b):=by
 by_cases hc:a=b <;> simp [cmpE,hc,b2i] at h <;> omega
theorem c_ne {v a b:Int} (h:v=b2i (cmpE .neq a b)):(v=1/\¬ a=b)∨(v=0/\a=b):=by
 by_cases hc:a=b <;> simp [cmpE,hc,b2i] at h <;> omega
set_option maxRecDepth 100000
def tWAdd:Tree:=(.req 0 [.limb 0 0,.limb 1 0,.lit 0]
(.lett 386 (.int .u64) (.app 0 0 [.limb 0 0,.limb 1 0,.lit 0])
(.lett 387 (.int .u64) (.app 0 1 [.limb 0 0,.limb 1 0,.lit 0])
(.req 0 [.limb 0 1,.limb 1 1,.var 387]
(.lett 1106 (.int .u64) (.app 0 0 [.limb 0 1,.limb 1 1,.var 387])
(.lett 1107 (.int .u64) (.app 0 1 [.limb 0 1,.limb 1 1,.var 387])
(.req 0 [.limb 0 2,.limb 1 2,.var 1107]
(.lett 1826 (.int .u64) (.app 0 0 [.limb 0 2,.limb 1 2,.var 1107])
(.lett 1827 (.int .u64) (.app 0 1 [.limb 0 2,.limb 1 2,.var 1107])
(.req 0 [.limb 0 3,.limb 1 3,.var 1827]
(.lett 2546 (.int .u64) (.app 0 0 [.limb 0 3,.limb 1 3,.var 1827])
(.lett 2547 (.int .u64) (.app 0 1 [.limb 0 3,.limb 1 3,.var 1827])
(.req 0 [.limb 0 4,.limb 1 4,.var 2547]
(.lett 3266 (.int .u64) (.app 0 0 [.limb 0 4,.limb 1 4,.var 2547])
(.lett 3267 (.int .u64) (.app 0 1 [.limb 0 4,.limb 1 4,.var 2547])
(.req 0 [.limb 0 5,.limb 1 5,.var 3267]
(.lett 3986 (.int .u64) (.app 0 0 [.limb 0 5,.limb 1 5,.var 3267])
(.lett 3987 (.int .u64) (.app 0 1 [.limb 0 5,.limb 1 5,.var 3267])
(.lett 4322 .bit (.cmp .eql (.var 3987) (.lit 1))
(.lett 4323 .num (.join [.var 386,.var 1106,.var 1826,.var 2546,.var 3266,.var 3986])
(.ret [.var 4323,.var 4322])))))))))))))))))))))
def tWSub:Tree:=(.req 0 [.limb 0 0,.limb 1 0,.lit 0]
(.lett 386 (.int .u64) (.app 0 0 [.limb 0 0,.limb 1 0,.lit 0])
(.lett 387 (.int .u64) (.app 0 1 [.limb 0 0,.limb 1 0,.lit 0])
(.req 0 [.limb 0 1,.limb 1 1,.var 387]
(.lett 1106 (.int .u64) (.app 0 0 [.limb 0 1,.limb 1 1,.var 387])
(.lett 1107 (.int .u64) (.app 0 1 [.limb 0 1,.limb 1 1,.var 387])
(.req 0 [.limb 0 2,.limb 1 2,.var 1107]
(.lett 1826 (.int .u64) (.app 0 0 [.limb 0 2,.limb 1 2,.var 1107])
(.lett 1827 (.int .u64) (.app 0 1 [.limb 0 2,.limb 1 2,.var 1107])
(.req 0 [.limb 0 3,.limb 1 3,.var 1827]
(.lett 2546 (.int .u64) (.app 0 0 [.limb 0 3,.limb 1 3,.var 1827])
(.lett 2547 (.int .u64) (.app 0 1 [.limb 0 3,.limb 1 3,.var 1827])
(.req 0 [.limb 0 4,.limb 1 4,.var 2547]
(.lett 3266 (.int .u64) (.app 0 0 [.limb 0 4,.limb 1 4,.var 2547])
(.lett 3267 (.int .u64) (.app 0 1 [.limb 0 4,.limb 1 4,.var 2547])
(.req 0 [.limb 0 5,.limb 1 5,.var 3267]
(.lett 3986 (.int .u64) (.app 0 0 [.limb 0 5,.limb 1 5,.var 3267])
(.lett 3987 (.int .u64) (.app 0 1 [.limb 0 5,.limb 1 5,.var 3267])
(.lett 4322 .bit (.cmp .eql (.var 3987) (.lit 1))
(.lett 4323 .num (.join [.var 386,.var 1106,.var 1826,.var 2546,.var 3266,.var 3986])
(.ret [.var 4323,.var 4322])))))))))))))))))))))
def tWCmp:Tree:=(.lett 290 .bit (.cmp .lss (.limb 0 5) (.limb 1 5))
(.split 290
(.ret [.lit (-1)])
(.lett 674 .bit (.cmp .gtr (.limb 0 5) (.limb 1 5))
(.split 674
 (.ret [.lit 1])
 (.lett 1058 .bit (.cmp .lss (.limb 0 4) (.limb 1 4))
 (.split 1058
 (.ret [.lit (-1)])
 (.lett 1442 .bit (.cmp .gtr (.limb 0 4) (.limb 1 4))
 (.split 1442
 (.ret [.lit 1])
 (.lett 1826 .bit (.cmp .lss (.limb 0 3) (.limb 1 3))
 (.split 1826
 (.ret [.lit (-1)])
 (.lett 2210 .bit (.cmp .gtr (.limb 0 3) (.limb 1 3))
 (.split 2210
 (.ret [.lit 1])
 (.lett 2594 .bit (.cmp .lss (.limb 0 2) (.limb 1 2))
 (.split 2594
 (.ret [.lit (-1)])
 (.lett 2978 .bit (.cmp .gtr (.limb 0 2) (.limb 1 2))
 (.split 2978
 (.ret [.lit 1])
 (.lett 3362 .bit (.cmp .lss (.limb 0 1) (.limb 1 1))
 (.split 3362
 (.ret [.lit (-1)])
 (.lett 3746 .bit (.cmp .gtr (.limb 0 1) (.limb 1 1))
 (.split 3746
 (.ret [.lit 1])
 (.lett 4130 .bit (.cmp .lss (.limb 0 0) (.limb 1 0))
 (.split 4130
 (.ret [.lit (-1)])
 (.lett 4514 .bit (.cmp .gtr (.limb 0 0) (.limb 1 0))
 (.split 4514
 (.ret [.lit 1])
 (.ret [.lit 0])))))))))))))))))))))))))
theorem addc {s c x y i:Int} (hs:s=(x+y+i)%18446744073709551616) (hc:c=(x+y+i)/18446744073709551616) (hx:0<=x/\x<18446744073709551616) (hy:0<=y/\y<18446744073709551616) (hi:0<=i/\i<=1) :
  s+18446744073709551616*c=x+y+i/\(0<=c/\c<=1):=by omega
theorem subc {s c x y i:Int} (hs:s=(x-y-i)%18446744073709551616) (hc:c=if x<y+i then 1 else 0) (hx:0<=x/\x<18446744073709551616) (hy:0<=y/\y<18446744073709551616) (hi:0<=i/\i<=1) :
  s=x-y-i+18446744073709551616*c/\(0<=c/\c<=1):=by split at hc <;> omega
theorem divmod {x q r m:Int} (h:x=r+m*q) (h0:0<=r) (h1:r<m):x%m=r/\x/m=q:=by
 subst h
 constructor
 ·rw [Int.add_mul_emod_self_left,Int.emod_eq_of_lt h0 h1]
 ·rw [Int.add_mul_ediv_left _ _ (by omega),Int.ediv_eq_zero_of_lt h0 h1,Int.zero_add]
theorem law_wAdd (f1 f2:FuncId) (e:Nat->Int) (hk:kkHas [.num,.num] [e 0,e 1]):tWAdd.says [kAdd64 f1] ⟨fun ys=>ys=(kWAdd f2).sem [e 0,e 1],[]⟩ e:=by
 obtain ⟨ha,hb,_⟩:=hk
 have ea:=lim_eq ha
 have eb:=lim_eq hb
 have a0:=lim_lt (e 0) 0
 have a1:=lim_lt (e 0) 1
 have a2:=lim_lt (e 0) 2
 have a3:=lim_lt (e 0) 3
 have a4:=lim_lt (e 0) 4
 have a5:=lim_lt (e 0) 5
 have b0:=lim_lt (e 1) 0
 have b1:=lim_lt (e 1) 1
 have b2:=lim_lt (e 1) 2
 have b3:=lim_lt (e 1) 3
 have b4:=lim_lt (e 1) 4
 have b5:=lim_lt (e 1) 5
 simp only [tWAdd,kAdd64,kWAdd,Tree.says,List.getElem?_cons_zero,List.map,ev_lit,ev_var,ev_limb,D.ev,List.getD_cons_zero,List.getD_cons_succ,KK.has,joinE6]
 generalize lim (e 0) 0=x0 at *
 generalize lim (e 0) 1=x1 at *
 generalize lim (e 0) 2=x2 at *
 generalize lim (e 0) 3=x3 at *
 generalize lim (e 0) 4=x4 at *
 generalize lim (e 0) 5=x5 at *
 generalize lim (e 1) 0=y0 at *
 generalize lim (e 1) 1=y1 at *
 generalize lim (e 1) 2=y2 at *
 generalize lim (e 1) 3=y3 at *
 generalize lim (e 1) 4=y4 at *
 generalize lim (e 1) 5=y5 at *
 refine ⟨by omega,fun s0 _ t0 _=>?_⟩
 obtain ⟨p0,q0⟩:=addc s0 t0 a0 b0 (by omega)
 refine ⟨by omega,fun s1 _ t1 _=>?_⟩
 obtain ⟨p1,q1⟩:=addc s1 t1 a1 b1 (by omega)
 refine ⟨by omega,fun s2 _ t2 _=>?_⟩
 obtain ⟨p2,q2⟩:=addc s2 t2 a2 b2 (by omega)
 refine ⟨by omega,fun s3 _ t3 _=>?_⟩
 obtain ⟨p3,q3⟩:=addc s3 t3 a3 b3 (by omega)
 refine ⟨by omega,fun s4 _ t4 _=>?_⟩
 obtain ⟨p4,q4⟩:=addc s4 t4 a4 b4 (by omega)
 refine ⟨by omega,fun s5 _ t5 _=>?_⟩
 obtain ⟨p5,q5⟩:=addc s5 t5 a5 b5 (by omega)
 intro h1 _ h2 h3
 obtain ⟨r1,r2⟩:=divmod (x:=e 0+e 1) (q:=e 3987) (r:=e 4323) (m:=N384) (by unfold N384;omega) h3.1 h3.2
 rw [r1,r2,h1]
 congr 2
 simp only [b2i,cmpE,beq_iff_eq]
 split <;> omega
theorem law_wSub (f1 f2:FuncId) (e:Nat->Int) (hk:kkHas [.num,.num] [e 0,e 1]):tWSub.says [kSub64 f1] ⟨fun ys=>ys=(kWSub f2).sem [e 0,e 1],[]⟩ e:=by
 obtain ⟨ha,hb,_⟩:=hk
 have ea:=lim_eq ha
 have eb:=lim_eq hb
 have a0:=lim_lt (e 0) 0
 have a1:=lim_lt (e 0) 1
 have a2:=lim_lt (e 0) 2
 have a3:=lim_lt (e 0) 3
 have a4:=lim_lt (e 0) 4
 have a5:=lim_lt (e 0) 5
 have b0:=lim_lt (e 1) 0
 have b1:=lim_lt (e 1) 1
 have b2:=lim_lt (e 1) 2
 have b3:=lim_lt (e 1) 3
 have b4:=lim_lt (e 1) 4
 have b5:=lim_lt (e 1) 5
 simp only [tWSub,kSub64,kWSub,Tree.says,List.getElem?_cons_zero,List.map,ev_lit,ev_var,ev_limb,D.ev,List.getD_cons_zero,List.getD_cons_succ,KK.has,joinE6]
 generalize lim (e 0) 0=x0 at *
 generalize lim (e 0) 1=x1 at *
 generalize lim (e 0) 2=x2 at *
 generalize lim (e 0) 3=x3 at *
 generalize lim (e 0) 4=x4 at *
 generalize lim (e 0) 5=x5 at *
 generalize lim (e 1) 0=y0 at *
 generalize lim (e 1) 1=y1 at *
 generalize lim (e 1) 2=y2 at *
 generalize lim (e 1) 3=y3 at *
 generalize lim (e 1) 4=y4 at *
 generalize lim (e 1) 5=y5 at *
 refine ⟨by omega,fun s0 _ t0 _=>?_⟩
 obtain ⟨p0,q0⟩:=subc s0 t0 a0 b0 (by omega)
 refine ⟨by omega,fun s1 _ t1 _=>?_⟩
 obtain ⟨p1,q1⟩:=subc s1 t1 a1 b1 (by omega)
 refine ⟨by omega,fun s2 _ t2 _=>?_⟩
 obtain ⟨p2,q2⟩:=subc s2 t2 a2 b2 (by omega)
 refine ⟨by omega,fun s3 _ t3 _=>?_⟩
 obtain ⟨p3,q3⟩:=subc s3 t3 a3 b3 (by omega)
 refine ⟨by omega,fun s4 _ t4 _=>?_⟩
 obtain ⟨p4,q4⟩:=subc s4 t4 a4 b4 (by omega)
 refine ⟨by omega,fun s5 _ t5 _=>?_⟩
 obtain ⟨p5,q5⟩:=subc s5 t5 a5 b5 (by omega)
 intro h1 _ h2 h3
 obtain ⟨r1,r2⟩:=divmod (x:=e 0-e 1) (q:=- e 3987) (r:=e 4323) (m:=N384) (by unfold N384;omega) h3.1 h3.2
 rw [r1,h1]
 congr 2
 simp only [b2i,cmpE,beq_iff_eq,bi]
 unfold N384 at h3
 split <;> split <;> omega
theorem law_wCmp (f2:FuncId) (e:Nat->Int) (hk:kkHas [.num,.num] [e 0,e 1]):tWCmp.says [] ⟨fun ys=>ys=(kWCmp f2).sem [e 0,e 1],[]⟩ e:=by
 obtain ⟨ha,hb,_⟩:=hk
 have ea:=lim_eq ha
 have eb:=lim_eq hb
 have a0:=lim_lt (e 0) 0
 have a1:=lim_lt (e 0) 1
 have a2:=lim_lt (e 0) 2
 have a3:=lim_lt (e 0) 3
 have a4:=lim_lt (e 0) 4
 have a5:=lim_lt (e 0) 5
 have b0:=lim_lt (e 1) 0
 have b1:=lim_lt (e 1) 1
 have b2:=lim_lt (e 1) 2
 have b3:=lim_lt (e 1) 3
 have b4:=lim_lt (e 1) 4
 have b5:=lim_lt (e 1) 5
 simp only [tWCmp,kWCmp,Tree.says,List.getElem?_cons_zero,List.map,ev_lit,ev_var,ev_limb,D.ev,List.getD_cons_zero,List.getD_cons_succ,KK.has,joinE6]
 generalize lim (e 0) 0=x0 at *
 generalize lim (e 0) 1=x1 at *
 generalize lim (e 0) 2=x2 at *
 generalize lim (e 0) 3=x3 at *
 generalize lim (e 0) 4=x4 at *
 generalize lim (e 0) 5=x5 at *
 generalize lim (e 1) 0=y0 at *
 generalize lim (e 1) 1=y1 at *
 generalize lim (e 1) 2=y2 at *
 generalize lim (e 1) 3=y3 at *
 generalize lim (e 1) 4=y4 at *
 generalize lim (e 1) 5=y5 at *
 intro h _
 have k0a:=c_lt h
 refine ⟨fun n=>by rw [if_pos (by omega)],fun n=>?_⟩
 clear h
 intro h _
 have k0b:=c_gt h
 refine ⟨fun m=>by rw [if_neg (by omega),if_neg (by omega)],fun m=>?_⟩
 have z0:x5=y5:=by omega
 clear h k0a k0b n m
 intro h _
 have k1a:=c_lt h
 refine ⟨fun n=>by rw [if_pos (by omega)],fun n=>?_⟩
 clear h
 intro h _
 have k1b:=c_gt h
 refine ⟨fun m=>by rw [if_neg (by omega),if_neg (by omega)],fun m=>?_⟩
 have z1:x4=y4:=by omega
 clear h k1a k1b n m
 intro h _
 have k2a:=c_lt h
 refine ⟨fun n=>by rw [if_pos (by omega)],fun n=>?_⟩
 clear h
 intro h _
 have k2b:=c_gt h
 refine ⟨fun m=>by rw [if_neg (by omega),if_neg (by omega)],fun m=>?_⟩
 have z2:x3=y3:=by omega
 clear h k2a k2b n m
 intro h _
 have k3a:=c_lt h
 refine ⟨fun n=>by rw [if_pos (by omega)],fun n=>?_⟩
 clear h
 intro h _
 have k3b:=c_gt h
 refine ⟨fun m=>by rw [if_neg (by omega),if_neg (by omega)],fun m=>?_⟩
 have z3:x2=y2:=by omega
 clear h k3a k3b n m
 intro h _
 have k4a:=c_lt h
 refine ⟨fun n=>by rw [if_pos (by omega)],fun n=>?_⟩
 clear h
 intro h _
 have k4b:=c_gt h
 refine ⟨fun m=>by rw [if_neg (by omega),if_neg (by omega)],fun m=>?_⟩
 have z4:x1=y1:=by omega
 clear h k4a k4b n m
 intro h _
 have k5a:=c_lt h
 refine ⟨fun n=>by rw [if_pos (by omega)],fun n=>?_⟩
 clear h
 intro h _
 have k5b:=c_gt h
 refine ⟨fun m=>by rw [if_neg (by omega),if_neg (by omega)],fun m=>?_⟩
 have z5:x0=y0:=by omega
 clear h k5a k5b n m
 rw [if_neg (by omega),if_pos (by omega)]
set_option maxRecDepth 100000
def U (v:Int):Prop:=0<=v/\v<18446744073709551616
theorem mul_bd {x y:Int} (hx:U x) (hy:U y):0<=x*y/\x*y<=18446744073709551615*18446744073709551615:=by
 unfold U at hx hy
 exact ⟨Int.mul_nonneg hx.1 hy.1,Int.mul_le_mul (by omega) (by omega) hy.1 (by omega)⟩
theorem mac_arith {p t c h l l1 c1 h1 l2 c2 h2:Int} (hp:0<=p/\p<=18446744073709551615*18446744073709551615) (ht:U t) (hc:U c)
  (e1:h=p/18446744073709551616) (e2:l=p%18446744073709551616) (e3:l1=(l+t+0)%18446744073709551616) (e4:c1=(l+t+0)/18446744073709551616) (e5:h1=wr .u64 (h+c1))
  (e6:l2=(l1+c+0)%18446744073709551616) (e7:c2=(l1+c+0)/18446744073709551616) (e8:h2=wr .u64 (h1+c2)):U l2/\U h2/\l2+18446744073709551616*h2=p+t+c:=by
 unfold U at *
 simp only [wr] at e5 e8
 omega
def u6:KK:=.int .u64
def mac (im ia n1 n2 n3:Nat) (x y t c:A) (k:Tree):Tree :=
 .req im [x,y] (.lett n1 (.int .u64) (.app im 0 [x,y]) (.lett (n1+1) (.int .u64) (.app im 1 [x,y])
 (.req ia [.var (n1+1),t,.lit 0] (.lett n2 (.int .u64) (.app ia 0 [.var (n1+1),t,.lit 0]) (.lett (n2+1) (.int .u64) (.app ia 1 [.var (n1+1),t,.lit 0])
 (.lett (n2+2) (.int .u64) (.bin .add .u64 (.var n1) (.var (n2+1)))
 (.req ia [.var n2,c,.lit 0] (.lett n3 (.int .u64) (.app ia 0 [.var n2,c,.lit 0]) (.lett (n3+1) (.int .u64) (.app ia 1 [.var n2,c,.lit 0])
 (.lett (n3+2) (.int .u64) (.bin .add .u64 (.var (n2+2)) (.var (n3+1))) k))))))))))
section
variable {T:List K} {f g:FuncId} {im ia:Nat} {G:Gl} {e:Nat->Int}
theorem mac_says {n1 n2 n3:Nat} {x y t c:A} {k:Tree} (hm:T[im]?=some (kMul64 f)) (ha:T[ia]?=some (kAdd64 g)) (bx:U (x.ev e)) (by_:U (y.ev e)) (bt:U (t.ev e)) (bc:U (c.ev e))
  (hk:U (e n3)->U (e (n3+2))->e n3+18446744073709551616*e (n3+2)=x.ev e*y.ev e+t.ev e+c.ev e->k.says T G e):(mac im ia n1 n2 n3 x y t c k).says T G e:=by
 simp only [mac,Tree.says,hm,ha,D.ev,kMul64,kAdd64,List.map,List.getD_cons_zero,List.getD_cons_succ,ev_var,ev_lit,binE]
 refine ⟨trivial,fun e1 _ e2 _=>⟨by omega,fun e3 _ e4 _ e5 _=>⟨by omega,fun e6 _ e7 _ e8 _=>?_⟩⟩⟩
 obtain ⟨r1,r2,r3⟩:=mac_arith (mul_bd bx by_) bt bc e1 e2 e3 e4 e5 e6 e7 e8
 exact hk r1 r2 r3
def macsT (im ia:Nat) (x:A):List (A×A×Nat×Nat×Nat)->A->(A->Tree)->Tree
 | [],c,k=>k c
 | (y,t,n1,n2,n3)::r,c,k=>mac im ia n1 n2 n3 x y t c (macsT im ia x r (.var (n3+2)) k)
def outC:List (A×A×Nat×Nat×Nat)->A->A
 | [],c=>c
 | (_,_,_,_,n3)::r,_=>outC r (.var (n3+2))
noncomputable def jo (e:Nat->Int):List A->Int
 | []=>0
 | a::r=>a.ev e+18446744073709551616*jo e r
def AllU (e:Nat->Int):List A->Prop
 | []=>True
 | a::r=>U (a.ev e)/\AllU e r
def pw64:Nat->Int
 | 0=>1
 | n+1=>18446744073709551616*pw64 n
theorem macsT_says (hm:T[im]?=some (kMul64 f)) (ha:T[ia]?=some (kAdd64 g)) {x:A} (bx:U (x.ev e)):∀ (l:List (A×A×Nat×Nat×Nat)) (c:A) (k:A->Tree),
  AllU e (l.map (·.1))->AllU e (l.map (·.2.1))->U (c.ev e) ->
  (AllU e (l.map fun q=>A.var q.2.2.2.2)->U ((outC l c).ev e)->jo e (l.map fun q=>A.var q.2.2.2.2)+pw64 l.length*(outC l c).ev e=x.ev e*jo e (l.map (·.1))+jo e (l.map (·.2.1))+c.ev e->(k (outC l c)).says T G e) ->
  (macsT im ia x l c k).says T G e
 | [],c,k,_,_,hc,hk=>by
  refine hk trivial hc ?_
  show (0:Int)+1*c.ev e=x.ev e*0+0+c.ev e
  omega
 | (y,t,n1,n2,n3)::r,c,k,hy,ht,hc,hk=>by
  refine mac_says hm ha bx hy.1 ht.1 hc fun h1 h2 h3=>?_
  refine macsT_says hm ha bx r (.var (n3+2)) k hy.2 ht.2 h2 fun g1 g2 g3=>?_
  refine hk ⟨h1,g1⟩ g2 ?_
  simp only [outC,List.map_cons,jo,List.length_cons,pw64,ev_var] at *
  generalize jo e (r.map (·.1))=Y at *
  generalize jo e (r.map (·.2.1))=S at *
  generalize (outC r (A.var (n3+2))).ev e=o at *
  generalize pw64 r.length=q at *
  rw [Int.mul_assoc,Int.mul_add (A.ev e x),show A.ev e x*(18446744073709551616*Y)=18446744073709551616*(A.ev e x*Y) by rw [Int.mul_left_comm]]
  generalize A.ev e x*Y=z at *
  generalize A.ev e x*A.ev e y=z' at *
  generalize q*o=z'' at *
  omega
end
def tMul64:Tree:=(.lett 2 (.int .u64) (.bin .and .u64 (.var 0) (.lit 4294967295))
(.lett 3 (.int .u64) (.bin .shr .u64 (.var 0) (.lit 32))
(.lett 4 (.int .u64) (.bin .and .u64 (.var 1) (.lit 4294967295))
(.lett 5 (.int .u64) (.bin .shr .u64 (.var 1) (.lit 32))
(.lett 6 (.int .u64) (.bin .mul .u64 (.var 2) (.var 4))
(.lett 7 (.int .u64) (.bin .mul .u64 (.var 3) (.var 4))
(.lett 8 (.int .u64) (.bin .shr .u64 (.var 6) (.lit 32))
(.lett 9 (.int .u64) (.bin .add .u64 (.var 7) (.var 8))
(.lett 10 (.int .u64) (.bin .and .u64 (.var 9) (.lit 4294967295))
(.lett 11 (.int .u64) (.bin .shr .u64 (.var 9) (.lit 32))
(.lett 12 (.int .u64) (.bin .mul .u64 (.var 2) (.var 5))
(.lett 13 (.int .u64) (.bin .add .u64 (.var 10) (.var 12))
(.lett 14 (.int .u64) (.bin .mul .u64 (.var 3) (.var 5))
(.lett 15 (.int .u64) (.bin .add .u64 (.var 14) (.var 11))
(.lett 16 (.int .u64) (.bin .shr .u64 (.var 13) (.lit 32))
(.lett 17 (.int .u64) (.bin .add .u64 (.var 15) (.var 16))
(.lett 18 (.int .u64) (.bin .mul .u64 (.var 0) (.var 1))
(.ret [.var 17,.var 18]))))))))))))))))))
theorem and_mask (x:Int) (k:Nat) (hk:k<=64) (h:U x):binE .and .u64 x ((2^k:Nat)-1:Int)=x%(2^k:Nat):=by
 obtain ⟨n,hn⟩:=Int.eq_ofNat_of_zero_le h.1
 unfold U at h
 have hp:(2^k:Nat)<=2^64:=Nat.pow_le_pow_right (by omega) hk
 have hp0:0<2^k:=Nat.two_pow_pos k
 have h2:((2^k:Nat)-1:Int)=((2^k-1:Nat):Int):=by omega
 have hlt:n<2^64:=by omega
 show wr .u64 ((BitVec.ofInt 64 x &&& BitVec.ofInt 64 ((2^k:Nat)-1:Int)).toNat:Int)=_
 rw [hn,h2,BitVec.ofInt_natCast,BitVec.ofInt_natCast,BitVec.toNat_and,BitVec.toNat_ofNat,BitVec.toNat_ofNat,Nat.mod_eq_of_lt hlt,Nat.mod_eq_of_lt (by omega),Nat.and_two_pow_sub_one_eq_mod]
 simp only [wr]
 have:n%2^k<2^k:=Nat.mod_lt _ hp0
 rw [Int.emod_eq_of_lt (by omega) (by omega)]
 simp
theorem and_32 {v x:Int} (h:v=binE .and .u64 x 4294967295) (hx:U x):v=x%4294967296:=by
 rw [h];exact and_mask x 32 (by omega) hx
theorem shr_e {v x:Int} {k:IntKind} (h:v=binE .shr k x 32) (hk:32<=k.bits:=by decide):v=x/4294967296:=by
 rw [h];simp only [binE]
 have:min (32:Int).toNat k.bits=32:=by show min 32 k.bits=32;omega
 rw [this]
 exact Int.fdiv_eq_ediv_of_nonneg _ (by decide)
theorem mul64_arith {x y x0 x1 y0 y1 w0 v7 t8 t w1 w2 v12 w1' v14 v15 v16 hi:Int} (hx:U x) (hy:U y)
  (a0:x0=x%4294967296) (a1:x1=x/4294967296) (b0:y0=y%4294967296) (b1:y1=y/4294967296)
  (c0:w0=wr .u64 (x0*y0)) (c1:v7=wr .u64 (x1*y0)) (c2:t8=w0/4294967296) (c3:t=wr .u64 (v7+t8)) (c4:w1=t%4294967296) (c5:w2=t/4294967296)
  (c6:v12=wr .u64 (x0*y1)) (c7:w1'=wr .u64 (w1+v12)) (c8:v14=wr .u64 (x1*y1)) (c9:v15=wr .u64 (v14+w2)) (c10:v16=w1'/4294967296) (c11:hi=wr .u64 (v15+v16)) :
  hi=x*y/18446744073709551616:=by
 unfold U at hx hy
 have hx2:x=x0+4294967296*x1:=by omega
 have hy2:y=y0+4294967296*y1:=by omega
 have ex:x*y=x0*y0+4294967296*(x1*y0)+4294967296*(x0*y1)+18446744073709551616*(x1*y1):=by
  rw [hx2,hy2];grind
 have bd:∀ {a b:Int},0<=a/\a<=4294967295->0<=b/\b<=4294967295->0<=a*b/\a*b<=4294967295*4294967295:=fun ha hb =>
  ⟨Int.mul_nonneg ha.1 hb.1,Int.mul_le_mul ha.2 hb.2 hb.1 (by omega)⟩
 have p00:=bd (a:=x0) (b:=y0) (by omega) (by omega)
 have p10:=bd (a:=x1) (b:=y0) (by omega) (by omega)
 have p01:=bd (a:=x0) (b:=y1) (by omega) (by omega)
 have p11:=bd (a:=x1) (b:=y1) (by omega) (by omega)
 rw [ex]
 clear ex bd hx2 hy2
 simp only [wr] at *
 generalize x0*y0=A at *
 generalize x1*y0=B at *
 generalize x0*y1=C at *
 generalize x1*y1=E at *
 clear a0 a1 b0 b1 hx hy
 omega
theorem law_mul64 (f:FuncId) (e:Nat->Int) (hk:kkHas [.int .u64,.int .u64] [e 0,e 1]):tMul64.says [] ⟨fun ys=>ys=(kMul64 f).sem [e 0,e 1],[]⟩ e:=by
 obtain ⟨h0,h1,_⟩:=hk
 have hx:U (e 0):=has_u64 h0
 have hy:U (e 1):=has_u64 h1
 simp only [tMul64,kMul64,Tree.says,List.map,ev_lit,ev_var,D.ev,KK.has]
 intro e2 _ e3 _ e4 _ e5 _ e6 _ e7 _ e8 k8 e9 k9 e10 _ e11 _ e12 _ e13 k13 e14 _ e15 _ e16 _ e17 _ e18 _
 have k6:U (e 6):=by rw [e6];exact has_u64 (wr_has _ _)
 have r:=mul64_arith hx hy (and_32 e2 hx) (shr_e e3) (and_32 e4 hy) (shr_e e5) e6 e7 (shr_e e8) e9 (and_32 e10 (has_u64 k9)) (shr_e e11) e12 e13 e14 e15 (shr_e e16) e17
 rw [r,e18]
 rfl
set_option maxRecDepth 100000
def roundT (im ia b:Nat) (x low n0 y0 y1 y2 y3 y4 y5 n1 n2 n3 n4 n5 t0 t1 t2 t3 t4 t5 t6:A) (k:A->A->A->A->A->A->A->Tree):Tree :=
 macsT im ia x [(y0,t0,b,b+288,b+291),(y1,t1,b+582,b+870,b+873),(y2,t2,b+1164,b+1452,b+1455),(y3,t3,b+1746,b+2034,b+2037),(y4,t4,b+2328,b+2616,b+2619),(y5,t5,b+2910,b+3198,b+3201)] (.lit 0) fun c =>
 .req ia [t6,c,.lit 0] (.lett (b+3204) (.int .u64) (.app ia 0 [t6,c,.lit 0]) (.lett (b+3205) (.int .u64) (.app ia 1 [t6,c,.lit 0])
 (.lett (b+3494) (.int .u64) (.bin .mul .u64 (.var (b+291)) low)
 (.req im [.var (b+3494),n0] (.lett (b+3590) (.int .u64) (.app im 0 [.var (b+3494),n0]) (.lett (b+3591) (.int .u64) (.app im 1 [.var (b+3494),n0])
 (.req ia [.var (b+3591),.var (b+291),.lit 0] (.lett (b+3592) (.int .u64) (.app ia 0 [.var (b+3591),.var (b+291),.lit 0]) (.lett (b+3593) (.int .u64) (.app ia 1 [.var (b+3591),.var (b+291),.lit 0])
 (.lett (b+3594) (.int .u64) (.bin .add .u64 (.var (b+3590)) (.var (b+3593)))
 (macsT im ia (.var (b+3494)) [(n1,.var (b+873),b+3595,b+3597,b+3600),(n2,.var (b+1455),b+3603,b+3605,b+3608),(n3,.var (b+2037),b+3611,b+3613,b+3616),(n4,.var (b+2619),b+3619,b+3621,b+3624),(n5,.var (b+3201),b+3627,b+3629,b+3632)] (.var (b+3594)) fun c' =>
 .req ia [.var (b+3204),c',.lit 0] (.lett (b+3635) (.int .u64) (.app ia 0 [.var (b+3204),c',.lit 0]) (.lett (b+3636) (.int .u64) (.app ia 1 [.var (b+3204),c',.lit 0])
 (.lett (b+3637) (.int .u64) (.bin .add .u64 (.var (b+3205)) (.var (b+3636)))
 (k (.var (b+3600)) (.var (b+3608)) (.var (b+3616)) (.var (b+3624)) (.var (b+3632)) (.var (b+3635)) (.var (b+3637)))))))))))))))))
theorem q_zero {q l0 low n0:Int} (hq:q=wr .u64 (l0*low)) (hl:n0*low%18446744073709551616=18446744073709551615):(q*n0+l0)%18446744073709551616=0:=by
 simp only [wr] at hq
 have h1:∃ z,l0*low=q+18446744073709551616*z:=⟨l0*low/18446744073709551616,by omega⟩
 have h2:∃ z,n0*low=18446744073709551615+18446744073709551616*z:=⟨n0*low/18446744073709551616,by omega⟩
 obtain ⟨z,h1⟩:=h1
 obtain ⟨y,h2⟩:=h2
 have:q*n0+l0=18446744073709551616*(l0*(y+1)-z*n0):=by grind
 rw [this]
 exact Int.mul_emod_right _ _
theorem round_arith {xB qn0 qJ V jl l0 j5 t6 c s6 c7 h l' cc ca j2 c' t5' c'' t6' jt:Int}
  (hqz:(qn0+l0)%18446744073709551616=0) (hqn:0<=qn0/\qn0<=18446744073709551615*18446744073709551615)
  (hV:V=jt+N384*t6) (u6:U t6) (hjl:jl=l0+18446744073709551616*j5) (ul:U l0) (uc:U c) (uc':U c')
  (S1:jl+N384*c=xB+jt+0) (a1:s6=(t6+c+0)%18446744073709551616) (a2:c7=(t6+c+0)/18446744073709551616)
  (m1:h=qn0/18446744073709551616) (m2:l'=qn0%18446744073709551616) (m4:cc=(l'+l0+0)/18446744073709551616) (m5:ca=wr .u64 (h+cc))
  (S2:j2+2135987035920910082395021706169552114602704522356652769947041607822219725780640550022962086936576*c'=qJ+j5+ca)
  (b1:t5'=(s6+c'+0)%18446744073709551616) (b2:c''=(s6+c'+0)/18446744073709551616) (b3:t6'=wr .u64 (c7+c'')) :
  18446744073709551616*(j2+2135987035920910082395021706169552114602704522356652769947041607822219725780640550022962086936576*t5'+N384*t6')=V+xB+(qn0+18446744073709551616*qJ)/\U t5'/\0<=t6'/\t6'<=2:=by
 unfold U N384 at *
 simp only [wr] at *
 omega
section
variable {T:List K} {f g:FuncId} {im ia b:Nat} {G:Gl} {e:Nat->Int}
def wd (a b c d f g:Int):Int:=a+18446744073709551616*(b+18446744073709551616*(c+18446744073709551616*(d+18446744073709551616*(f+18446744073709551616*g))))
theorem round_says {x low n0 y0 y1 y2 y3 y4 y5 n1 n2 n3 n4 n5 t0 t1 t2 t3 t4 t5 t6:A} {k:A->A->A->A->A->A->A->Tree} {B N V:Int} (hm:T[im]?=some (kMul64 f)) (ha:T[ia]?=some (kAdd64 g)) (bx:U (x.ev e))
  (hy:AllU e [y0,y1,y2,y3,y4,y5]) (hn:AllU e [n0,n1,n2,n3,n4,n5]) (ht:AllU e [t0,t1,t2,t3,t4,t5,t6])
  (hB:B=jo e [y0,y1,y2,y3,y4,y5]) (hN:N=jo e [n0,n1,n2,n3,n4,n5]) (hV:V=jo e [t0,t1,t2,t3,t4,t5]+N384*t6.ev e) (hVB:V<B+N)
  (hl:n0.ev e*low.ev e%18446744073709551616=18446744073709551615)
  (hk:∀ V' q,AllU e [.var (b+3600),.var (b+3608),.var (b+3616),.var (b+3624),.var (b+3632),.var (b+3635),.var (b+3637)] ->
   V'=jo e [.var (b+3600),.var (b+3608),.var (b+3616),.var (b+3624),.var (b+3632),.var (b+3635)]+N384*e (b+3637)->V'<B+N->0<=V'->0<=q/\q<18446744073709551616->18446744073709551616*V'=V+x.ev e*B+q*N ->
   (k (.var (b+3600)) (.var (b+3608)) (.var (b+3616)) (.var (b+3624)) (.var (b+3632)) (.var (b+3635)) (.var (b+3637))).says T G e) :
  (roundT im ia b x low n0 y0 y1 y2 y3 y4 y5 n1 n2 n3 n4 n5 t0 t1 t2 t3 t4 t5 t6 k).says T G e:=by
 unfold roundT
 obtain ⟨ht0,ht1,ht2,ht3,ht4,ht5,ht6,_⟩:=ht
 obtain ⟨hn0,hn1,hn2,hn3,hn4,hn5,_⟩:=hn
 refine macsT_says hm ha bx _ _ _ hy ⟨ht0,ht1,ht2,ht3,ht4,ht5,trivial⟩ (by show U 0;unfold U;omega) fun g1 g2 g3=>?_
 simp only [List.map,outC,List.length_cons,List.length_nil,AllU,ev_var] at g1 g2 g3
 obtain ⟨l0,l1,l2,l3,l4,l5,_⟩:=g1
 simp only [outC]
 have ht6':=ht6
 refine ⟨by simp only [ha,kAdd64,List.map,ev_lit];omega,fun a1 _ a2 _ a3 k3=>⟨by simp only [hm,kMul64],fun a4 _ a5 _=>⟨by simp only [ha,kAdd64,List.map,ev_lit];omega,fun _ _ a7 _ a8 k8=>?_⟩⟩⟩
 have k3':U (e (b+3494)):=has_u64 k3
 have k8':U (e (b+3594)):=has_u64 k8
 refine macsT_says hm ha (by exact k3') _ _ _ ⟨hn1,hn2,hn3,hn4,hn5,trivial⟩ ⟨l1,l2,l3,l4,l5,trivial⟩ (by exact k8') fun p1 p2 p3=>?_
 simp only [List.map,outC,List.length_cons,List.length_nil,AllU,ev_var] at p1 p2 p3
 obtain ⟨r1,r2,r3,r4,r5,_⟩:=p1
 simp only [outC]
 refine ⟨by simp only [ha,kAdd64,List.map,ev_lit];omega,fun b1 _ b2 _ b3 _=>?_⟩
 simp only [D.ev,ha,hm,kAdd64,kMul64,List.map,List.getD_cons_zero,List.getD_cons_succ,ev_var,ev_lit,binE] at a1 a2 a3 a4 a5 a7 a8 b1 b2 b3
 have hz:=q_zero a3 hl
 have e6:pw64 (0+1+1+1+1+1+1)=N384:=by decide +kernel
 have e5:pw64 (0+1+1+1+1+1)=2135987035920910082395021706169552114602704522356652769947041607822219725780640550022962086936576:=by decide +kernel
 rw [e6,show (A.lit 0).ev e=0 from rfl] at g3
 rw [e5] at p3
 have hqn:=mul_bd k3' hn0
 obtain ⟨s1,s2,s3,s4⟩:=round_arith hz hqn hV ht6 (by simp only [jo];rfl) l0 g2 p2 g3 a1 a2 a4 a5 a7 a8 p3 b1 b2 b3
 have hB0:0<=B:=by
  obtain ⟨z0,z1,z2,z3,z4,z5,_⟩:=hy
  unfold U at z0 z1 z2 z3 z4 z5
  rw [hB];simp only [jo];omega
 have hN0:0<=N:=by
  unfold U at hn0 hn1 hn2 hn3 hn4 hn5
  rw [hN];simp only [jo];omega
 have hqN:e (b+3494)*N=e (b+3494)*n0.ev e+18446744073709551616*(e (b+3494)*jo e [n1,n2,n3,n4,n5]):=by
  rw [hN,show jo e [n0,n1,n2,n3,n4,n5]=n0.ev e+18446744073709551616*jo e [n1,n2,n3,n4,n5] from rfl,Int.mul_add,Int.mul_left_comm]
 rw [<- hqN] at s1
 have hxB:A.ev e x*jo e [y0,y1,y2,y3,y4,y5]=A.ev e x*B:=by rw [hB]
 simp only [jo] at hxB
 have s1':18446744073709551616*(jo e [.var (b+3600),.var (b+3608),.var (b+3616),.var (b+3624),.var (b+3632),.var (b+3635)]+N384*e (b+3637))=V+A.ev e x*B+e (b+3494)*N:=by
  rw [<- hB] at s1
  rw [<- s1]
  simp only [jo,ev_var];omega
 have m1:A.ev e x*B<=18446744073709551615*B:=Int.mul_le_mul_of_nonneg_right (by have:=bx.2;omega) hB0
 have m2:e (b+3494)*N<=18446744073709551615*N:=Int.mul_le_mul_of_nonneg_right (by have:=k3'.2;omega) hN0
 refine hk _ _ ⟨r1,r2,r3,r4,r5,s2,by exact ⟨s3,by show e (b+3637)<_;omega⟩,trivial⟩ rfl ?_ ?_ k3' s1'
 ·generalize jo e [.var (b+3600),.var (b+3608),.var (b+3616),.var (b+3624),.var (b+3632),.var (b+3635)]+N384*e (b+3637)=V' at *
  omega
 ·unfold U at r1 r2 r3 r4 r5 s2
  have s3':0<=e (b+3637):=s3
  unfold N384
  simp only [jo,ev_var];omega
end
set_option maxRecDepth 100000
theorem md {x y n:Int} (z:Int) (h:x=y+n*z):x%n=y%n:=by rw [h];exact Int.add_mul_emod_self_left ..
theorem md_of {x n:Int}:∃ z,x%n=x+n*z:=⟨-(x/n),by have h1:=Int.emod_add_mul_ediv x n;rw [Int.mul_neg];omega⟩
theorem md_lt {x n:Int} (h:0<n):0<=x%n/\x%n<n:=⟨Int.emod_nonneg _ (by omega),Int.emod_lt_of_pos _ h⟩
theorem md_eq {x n r:Int} (z:Int) (h:x=r+n*z) (h0:0<=r) (h1:r<n):x%n=r:=by
 rw [md z h];exact Int.emod_eq_of_lt h0 h1
theorem one_pow_md (n u:Int):∀ k:Nat,∃ z,(1+n*u)^k=1+n*z
 | 0=>⟨0,by simp⟩
 | k+1=>by
  obtain ⟨z,hz⟩:=one_pow_md n u k
  exact ⟨z+u+n*z*u,by rw [Int.pow_succ,hz];grind⟩
def half2 (n:Int):Int:=(n+1)/2
theorem half_R {n:Int} (h:n%2=1):∃ z,N384*half2 n^384=1+n*z:=by
 obtain ⟨z,hz⟩:=one_pow_md n 1 384
 have h2:1+n*1=2*half2 n:=by unfold half2;omega
 rw [h2,Int.mul_pow,show (2:Int)^384=N384 by decide +kernel] at hz
 exact ⟨z,hz⟩
theorem montv_of {n a b v q:Int} (h:n%2=1) (hv:N384*v=a*b+q*n):v%n=montv n a b:=by
 obtain ⟨z,hz⟩:=half_R h
 have e:v=a*b*half2 n^384+n*(q*half2 n^384-v*z):=by
  have h1:N384*v*half2 n^384=v*(N384*half2 n^384):=by rw [Int.mul_comm N384 v,Int.mul_assoc]
  rw [hz,hv] at h1
  generalize half2 n^384=I at *
  grind
 exact md _ e
theorem odd_of {n low:Int} (h:n*low%18446744073709551616=18446744073709551615):n%2=1:=by
 rcases Int.emod_two_eq n with h2 | h2
 ·exfalso
  have:n=2*(n/2):=by omega
  rw [this,Int.mul_assoc] at h
  generalize n/2*low=z at h
  omega
 ·exact h2
theorem low0 {n low:Int} (h:n*low%18446744073709551616=18446744073709551615):lim n 0*low%18446744073709551616=18446744073709551615:=by
 rw [lim_0,<- h]
 have:n=n%18446744073709551616+18446744073709551616*(n/18446744073709551616):=by omega
 refine md (-(n/18446744073709551616*low)) ?_
 conv=>rhs;rw [this]
 grind
theorem c_not {v x:Int} (h:v=if x=0 then 1 else 0):(v=1/\x=0)∨(v=0/\x≠0):=by
 by_cases hx:x=0 <;> simp [hx] at h <;> omega
def tLess:Tree:=(.req 0 [.var 3,.var 0]
(.lett 244 .num (.app 0 0 [.var 3,.var 0])
(.lett 245 .bit (.app 0 1 [.var 3,.var 0])
(.lett 580 .bit (.not (.var 245))
(.split 580
(.ret [.var 244])
(.ret [.var 3]))))))
theorem law_less (f1 f:FuncId) (e:Nat->Int) (hk:kkHas [.num,.int .u64,.num,.num] [e 0,e 1,e 2,e 3]):tLess.says [kWSub f1] ⟨fun ys=>ys=(kLess f).sem [e 0,e 1,e 2,e 3],[]⟩ e:=by
 obtain ⟨h0,h1,h2,h3,_⟩:=hk
 simp only [KK.has] at h0 h3
 simp only [tLess,kLess,kWSub,Tree.says,List.getElem?_cons_zero,List.map,ev_var,D.ev,List.getD_cons_zero,List.getD_cons_succ,bi]
 refine ⟨trivial,fun a1 _ a2 _ a3 _=>⟨fun hs=>?_,fun hs=>?_⟩⟩
 ·have a3':=c_not a3
  have:¬ e 3<e 0:=fun hc=>by rw [if_pos hc] at a2;omega
  rw [if_pos (by omega),a1,Int.emod_eq_of_lt (by omega) (by omega)]
 ·have a3':=c_not a3
  have:e 3<e 0:=by
   by_cases hc:e 3<e 0
   ·exact hc
   ·rw [if_neg hc] at a2;omega
  rw [if_neg (by omega)]
def z0:A:=.lit 0
def tMontR (i b:Nat) (t0 t1 t2 t3 t4 t5 t6:A) (k:A->A->A->A->A->A->A->Tree):Tree :=
 roundT 1 0 b (.limb 3 i) (.var 1) (.limb 0 0) (.limb 4 0) (.limb 4 1) (.limb 4 2) (.limb 4 3) (.limb 4 4) (.limb 4 5) (.limb 0 1) (.limb 0 2) (.limb 0 3) (.limb 0 4) (.limb 0 5) t0 t1 t2 t3 t4 t5 t6 k
def tMont:Tree :=
 tMontR 0 293 (.lit 0) (.lit 0) (.lit 0) (.lit 0) (.lit 0) (.lit 0) (.lit 0) fun t0 t1 t2 t3 t4 t5 t6 =>
 tMontR 1 4219 t0 t1 t2 t3 t4 t5 t6 fun t0 t1 t2 t3 t4 t5 t6 =>
 tMontR 2 8145 t0 t1 t2 t3 t4 t5 t6 fun t0 t1 t2 t3 t4 t5 t6 =>
 tMontR 3 12071 t0 t1 t2 t3 t4 t5 t6 fun t0 t1 t2 t3 t4 t5 t6 =>
 tMontR 4 15997 t0 t1 t2 t3 t4 t5 t6 fun t0 t1 t2 t3 t4 t5 t6 =>
 tMontR 5 19923 t0 t1 t2 t3 t4 t5 t6 fun t0 t1 t2 t3 t4 t5 _ =>
 (.lett 23561 .num (.join [t0,t1,t2,t3,t4,t5])
 (.req 2 [.var 0,.var 1,.var 2,.var 23561]
 (.lett 23562 .num (.app 2 0 [.var 0,.var 1,.var 2,.var 23561])
 (.ret [.var 23562]))))
theorem jo6 {x:Int} (h:0<=x/\x<N384) (e:Nat->Int) (i:Nat) (hi:e i=x):jo e [.limb i 0,.limb i 1,.limb i 2,.limb i 3,.limb i 4,.limb i 5]=x:=by
 have:=lim_eq h
 simp only [jo,ev_limb,hi]
 omega
theorem U_lim (e:Nat->Int) (i j:Nat):U ((A.limb i j).ev e):=lim_lt (e i) j
theorem jo_join (e:Nat->Int):∀ l:List A,joinE (l.map (·.ev e))=jo e l
 | []=>rfl
 | a::l=>by simp only [List.map,joinE,jo,jo_join e l]
theorem mont_fin {n a b V1 V2 V3 V4 V5 V6 a0 a1 a2 a3 a4 a5 q0 q1 q2 q3 q4 q5:Int} (e1:18446744073709551616*V1=0+a0*b+q0*n) (e2:18446744073709551616*V2=V1+a1*b+q1*n) (e3:18446744073709551616*V3=V2+a2*b+q2*n) (e4:18446744073709551616*V4=V3+a3*b+q3*n)
  (e5:18446744073709551616*V5=V4+a4*b+q4*n) (e6:18446744073709551616*V6=V5+a5*b+q5*n) (ha:a=wd a0 a1 a2 a3 a4 a5):N384*V6=a*b+wd q0 q1 q2 q3 q4 q5*n:=by
 rw [ha]
 unfold wd N384
 grind
theorem wd_lt {q0 q1 q2 q3 q4 q5:Int} (h0:U q0) (h1:U q1) (h2:U q2) (h3:U q3) (h4:U q4) (h5:U q5):0<=wd q0 q1 q2 q3 q4 q5/\wd q0 q1 q2 q3 q4 q5<N384:=by
 unfold U at *
 unfold wd N384
 omega
theorem mont_lt {n a b q v:Int} (ha:0<=a/\a<N384) (hb:0<=b/\b<N384) (hq:0<=q/\q<N384) (hn:3<=n) (hp:a<n∨b<n) (h:N384*v=a*b+q*n):v<2*n:=by
 have h1:a*b<=N384*n:=by
  rcases hp with hp | hp
  ·rw [Int.mul_comm N384];exact Int.mul_le_mul (by omega) (by omega) hb.1 (by omega)
  ·exact Int.mul_le_mul (by omega) (by omega) hb.1 (by unfold N384;omega)
 have h2:q*n<=(N384-1)*n:=Int.mul_le_mul_of_nonneg_right (by omega) (by omega)
 rw [Int.sub_mul] at h2
 have h3:N384*v<N384*(2*n):=by
  rw [show N384*(2*n)=N384*n+N384*n by rw [Int.mul_left_comm];omega];omega
 exact Int.lt_of_mul_lt_mul_left h3 (by unfold N384;omega)
theorem law_mont (f1 f2 f3 f:FuncId) (e:Nat->Int) (hk:kkHas [.num,.int .u64,.num,.num,.num] [e 0,e 1,e 2,e 3,e 4]) (hp:(kMont f).pre [e 0,e 1,e 2,e 3,e 4]) :
  tMont.says [kAdd64 f1,kMul64 f2,kLess f3] ⟨fun ys=>ys=(kMont f).sem [e 0,e 1,e 2,e 3,e 4],[]⟩ e:=by
 obtain ⟨h0,h1,h2,h3,h4,_⟩:=hk
 obtain ⟨⟨hl,hn3,hn2⟩,hab⟩:=hp
 have hx:∀ i j,U ((A.limb i j).ev e):=U_lim e
 have hb6:=jo6 h4 e 4 rfl
 have hn6:=jo6 h0 e 0 rfl
 have hB:AllU e [.limb 4 0,.limb 4 1,.limb 4 2,.limb 4 3,.limb 4 4,.limb 4 5]:=⟨hx _ _,hx _ _,hx _ _,hx _ _,hx _ _,hx _ _,trivial⟩
 have hN:AllU e [.limb 0 0,.limb 0 1,.limb 0 2,.limb 0 3,.limb 0 4,.limb 0 5]:=⟨hx _ _,hx _ _,hx _ _,hx _ _,hx _ _,hx _ _,trivial⟩
 have hl0:(A.limb 0 0).ev e*(A.var 1).ev e%18446744073709551616=18446744073709551615:=low0 hl
 have hz:U ((A.lit 0).ev e):=by show U 0;unfold U;omega
 unfold tMont tMontR
 refine round_says (V:=0) rfl rfl (hx _ _) hB hN ⟨hz,hz,hz,hz,hz,hz,hz,trivial⟩ hb6.symm hn6.symm (by simp only [jo,ev_lit];omega) (by have:=h4.1;omega) hl0 fun V1 q0 t1 v1 b1 _ k1 E1=>?_
 refine round_says rfl rfl (hx _ _) hB hN t1 hb6.symm hn6.symm v1 b1 hl0 fun V2 q1 t2 v2 b2 _ k2 E2=>?_
 refine round_says rfl rfl (hx _ _) hB hN t2 hb6.symm hn6.symm v2 b2 hl0 fun V3 q2 t3 v3 b3 _ k3 E3=>?_
 refine round_says rfl rfl (hx _ _) hB hN t3 hb6.symm hn6.symm v3 b3 hl0 fun V4 q3 t4 v4 b4 _ k4 E4=>?_
 refine round_says rfl rfl (hx _ _) hB hN t4 hb6.symm hn6.symm v4 b4 hl0 fun V5 q4 t5 v5 b5 _ k5 E5=>?_
 refine round_says rfl rfl (hx _ _) hB hN t5 hb6.symm hn6.symm v5 b5 hl0 fun V6 q5 t6 v6 b6 p6 k6 E6=>?_
 have ha:e 3=wd (lim (e 3) 0) (lim (e 3) 1) (lim (e 3) 2) (lim (e 3) 3) (lim (e 3) 4) (lim (e 3) 5):=lim_eq h3
 have fin:=mont_fin E1 E2 E3 E4 E5 E6 ha
 have hq:=wd_lt k1 k2 k3 k4 k5 k6
 have hlt:=mont_lt h3 h4 hq hn3 hab fin
 have hmv:=montv_of (odd_of hl) fin
 have h22:(2:Int)^382=9850501549098619803069760025035903451269934817616361666987073351061430442874302652853566563721228910201656997576704:=by decide +kernel
 obtain ⟨u0,u1,u2,u3,u4,u5,u6,_⟩:=t6
 have hv6:e 23560=0/\V6=jo e [.var 23523,.var 23531,.var 23539,.var 23547,.var 23555,.var 23558]:=by
  have hj:0<=jo e [.var 23523,.var 23531,.var 23539,.var 23547,.var 23555,.var 23558]:=by
   have w0:U (e 23523):=u0
   have w1:U (e 23531):=u1
   have w2:U (e 23539):=u2
   have w3:U (e 23547):=u3
   have w4:U (e 23555):=u4
   have w5:U (e 23558):=u5
   unfold U at w0 w1 w2 w3 w4 w5
   simp only [jo,ev_var];omega
  have hu:0<=e 23560:=u6.1
  rw [h22] at hn2
  have hv6':V6=jo e [.var 23523,.var 23531,.var 23539,.var 23547,.var 23555,.var 23558]+N384*e 23560:=v6
  generalize jo e [.var 23523,.var 23531,.var 23539,.var 23547,.var 23555,.var 23558]=J at *
  unfold N384 at hv6'
  omega
 refine fun c1 _=>⟨trivial,fun c2 _=>?_⟩
 have c1':e 23561=V6:=by
  rw [c1,hv6.2];exact jo_join e [.var 23523,.var 23531,.var 23539,.var 23547,.var 23555,.var 23558]
 have c2':e 23562=if e 0<=e 23561 then e 23561-e 0 else e 23561:=c2
 show [e 23562]=[montv (e 0) (e 3) (e 4)]
 rw [c2',c1',<- hmv]
 congr 1
 split
 ·exact (md_eq 1 (by omega) (by omega) (by omega)).symm
 ·exact (Int.emod_eq_of_lt p6 (by omega)).symm
def blen (x:Int):Int:=if x<=0 then 0 else (x.toNat.log2:Int)+1
def kLen64 (f:FuncId):K:={fn:=f,ext:=false,ins:=[iU],outs:=[oI],pre:=fun _=>True,sem:=fun | [a]=>[blen a] | _=>[] }
def kWLen (f:FuncId):K:={fn:=f,ext:=false,ins:=[iN],outs:=[oI],pre:=fun _=>True,sem:=fun | [a]=>[blen a] | _=>[] }
def wideOf (n:Int):Int:=2^768%n
def mGood (n low w:Int):Prop:=mOk n low/\w=wideOf n
def newton (n:Int):Nat->Int->Int
 | 0,x=>x
 | k+1,x=>newton n k (x*((2-n*x%18446744073709551616)%18446744073709551616)%18446744073709551616)
def lowOf (n:Int):Int:=(-(newton (n%18446744073709551616) 6 (n%18446744073709551616)))%18446744073709551616
abbrev cOK:L:=.cst (.int .i64 (.lit 0))
def kNew (f:FuncId) (te:TypeId):K:={fn:=f,ext:=false,ins:=[iN],outs:=[.box te [.num,.int .u64,.num],.one cOK],pre:=fun | [n]=>n%2=1/\3<=n/\n<2^382 | _=>False,sem:=fun | [n]=>[n,lowOf n,wideOf n] | _=>[] }
def kReduce (f:FuncId):K:={fn:=f,ext:=false,ins:=[iM,iN],outs:=[oN],pre:=fun | [n,low,w,_]=>mGood n low w | _=>False,sem:=fun | [n,_,_,a]=>[a%n] | _=>[] }
def kMAdd (f:FuncId):K:={fn:=f,ext:=false,ins:=[iM,iN,iN],outs:=[oN],pre:=fun | [n,low,w,_,_]=>mGood n low w | _=>False,sem:=fun | [n,_,_,a,b]=>[(a+b)%n] | _=>[] }
def kMMul (f:FuncId):K:={fn:=f,ext:=false,ins:=[iM,iN,iN],outs:=[oN],pre:=fun | [n,low,w,_,_]=>mGood n low w | _=>False,sem:=fun | [n,_,_,a,b]=>[(a*b)%n] | _=>[] }
def rGreat:Int:=52435875175126190479447740508185965837690552500527637822603658699938581184513
def rOf (s:Int):Int:=if s=0 then rGreat else if s=1 then 65521 else 72057594037927889
def isS (s:Int):Prop:=0<=s/\s<=2
instance (s:Int):Decidable (isS s):=inferInstanceAs (Decidable (_/\_))
def kOrder (f:FuncId):K:={fn:=f,ext:=false,ins:=[iI],outs:=[oN],pre:=fun | [s]=>isS s | _=>False,sem:=fun | [s]=>[rOf s] | _=>[] }
def kSOrder (f:FuncId):K:={fn:=f,ext:=false,ins:=[iI],outs:=[oN,oI],pre:=fun _=>True,sem:=fun | [s]=>if isS s then [rOf s,0] else [0,2] | _=>[] }
def sem2 (op:Int->Int->Int):List Int->List Int:=fun | [s,a,b]=>if isS s/\a<rOf s/\b<rOf s then [op a b%rOf s,0] else [0,2] | _=>[]
def kS2 (f:FuncId) (op:Int->Int->Int):K:={fn:=f,ext:=false,ins:=[iI,iN,iN],outs:=[oN,oI],pre:=fun _=>True,sem:=sem2 op }
def kOf (f:FuncId):K:={fn:=f,ext:=false,ins:=[iU],outs:=[oN],pre:=fun _=>True,sem:=fun | [a]=>[a] | _=>[] }
abbrev iC:Sh:=.agg [.int .u64,.int .u64,.int .u64,.int .u64,.int .u64,.bool]
def kDiv64 (f:FuncId):K:={fn:=f,ext:=false,ins:=[iU,iU,iU],outs:=[oU,oU],pre:=fun | [h,_,y]=>h<y | _=>False,sem:=fun | [h,l,y]=>[(h*18446744073709551616+l)/y,(h*18446744073709551616+l)%y] | _=>[] }
def kRem64 (f:FuncId):K:={fn:=f,ext:=false,ins:=[iU,iU,iU],outs:=[oU],pre:=fun | [_,_,y]=>0<y | _=>False,sem:=fun | [h,l,y]=>[(h*18446744073709551616+l)%y] | _=>[] }
set_option maxRecDepth 100000
def tab8:List A:=(List.range 256).map fun n=>.lit (if n=0 then 0 else (n.log2:Int)+1)
theorem tab8_ok:∀ n:Nat,n<256->∀ e:Nat->Int,(tab8.map (·.ev e)).getD n 0=blen n:=by
 intro n hn e
 simp only [tab8,List.map_map,List.getD_eq_getElem?_getD,List.getElem?_map,List.getElem?_range hn,Option.map_some,Option.getD_some,Function.comp_apply,A.ev,blen]
 by_cases h:n=0
 ·subst h;rfl
 ·rw [if_neg h,if_neg (by omega)];simp
theorem shr_d {v x:Int} {k:IntKind} {c:Int} (d:Int) (h:v=binE .shr k x c) (hd:((2^(min c.toNat k.bits):Nat):Int)=d) (hd0:0<=d):v=x/d:=by
 rw [h];simp only [binE];rw [hd];exact Int.fdiv_eq_ediv_of_nonneg _ hd0
theorem shl_d {v x:Int} {k:IntKind} {c:Int} (d:Int) (h:v=binE .shl k x c) (hd:((2^(min c.toNat k.bits):Nat):Int)=d):v=wr k (x*d):=by
 rw [h];simp only [binE];rw [hd]
theorem blen_1 {x:Int} (h:1<=x):blen x=1+blen (x/2):=by
 obtain ⟨n,rfl⟩:=Int.eq_ofNat_of_zero_le (show 0<=x by omega)
 unfold blen
 rw [if_neg (by omega)]
 simp only [Int.toNat_natCast]
 rw [Nat.log2_def]
 by_cases h2:2<=n
 ·rw [if_pos h2,if_neg (by omega),show ((n:Int)/2).toNat=n/2 by omega];push_cast;omega
 ·rw [if_neg h2,if_pos (by omega)];rfl
theorem blen_shift:∀ (k:Nat) (x:Int),(2:Int)^k<=x->blen x=k+blen (x/2^k)
 | 0,x,_=>by simp
 | k+1,x,h=>by
  rw [Int.pow_succ] at h
  have hp:(0:Int)<2^k:=Int.pow_pos (by omega)
  have h1:(2:Int)^k<=x/2:=by omega
  rw [blen_1 (by omega),blen_shift k (x/2) h1,Int.pow_succ,Int.mul_comm,Int.ediv_ediv_of_nonneg (by omega)]
  push_cast;omega
theorem blen_nn (x:Int):0<=blen x:=by unfold blen;split <;> omega
theorem blen_le:∀ (k:Nat) (x:Int),0<=x->x<2^k->blen x<=k
 | 0,x,h0,h=>by simp at h;unfold blen;rw [if_pos (by omega)];omega
 | k+1,x,h0,h=>by
  by_cases h1:1<=x
  ·rw [blen_1 h1];rw [Int.pow_succ] at h
   have:=blen_le k (x/2) (by omega) (by omega)
   push_cast;omega
  ·unfold blen;rw [if_pos (by omega)];omega
theorem blen_gt:∀ (k:Nat) (x:Int),(2:Int)^k<=x->k<blen x
 | k,x,h=>by
  have hp:(0:Int)<2^k:=Int.pow_pos (by omega)
  rw [blen_shift k x h]
  have:1<=x/2^k:=Int.le_ediv_of_mul_le hp (by omega)
  rw [blen_1 this]
  have:=blen_nn (x/2^k/2)
  omega
def tLen64:Tree:=(.lett 1 .bit (.cmp .geq (.var 0) (.lit 4294967296))
(.split 1
(.lett 2 (.int .u64) (.bin .shr .u64 (.var 0) (.lit 32))
(.lett 3 .bit (.cmp .geq (.var 2) (.lit 65536))
(.split 3
 (.lett 4 (.int .u64) (.bin .shr .u64 (.var 2) (.lit 16))
 (.lett 5 .bit (.cmp .geq (.var 4) (.lit 256))
 (.split 5
 (.lett 6 (.int .u64) (.bin .shr .u64 (.var 4) (.lit 8))
 (.lett 7 (.int .u8) (.conv .u8 (.var 6))
 (.lett 8 .bit (.cmp .leq (.lit 0) (.var 7))
 (.lett 9 .bit (.cmp .lss (.var 7) (.lit 256))
 (.lett 10 (.int .u8) (.sel (.var 7) tab8)
 (.nz (.var 8)
 (.nz (.var 9)
 (.lett 11 (.int .i64) (.bin .add .i64 (.lit 56) (.var 10))
 (.ret [.var 11])))))))))
 (.lett 6 (.int .u8) (.conv .u8 (.var 4))
 (.lett 7 .bit (.cmp .leq (.lit 0) (.var 6))
 (.lett 8 .bit (.cmp .lss (.var 6) (.lit 256))
 (.lett 9 (.int .u8) (.sel (.var 6) tab8)
 (.nz (.var 7)
 (.nz (.var 8)
 (.lett 10 (.int .i64) (.bin .add .i64 (.lit 48) (.var 9))
 (.ret [.var 10])))))))))))
 (.lett 4 .bit (.cmp .geq (.var 2) (.lit 256))
 (.split 4
 (.lett 5 (.int .u64) (.bin .shr .u64 (.var 2) (.lit 8))
 (.lett 6 (.int .u8) (.conv .u8 (.var 5))
 (.lett 7 .bit (.cmp .leq (.lit 0) (.var 6))
 (.lett 8 .bit (.cmp .lss (.var 6) (.lit 256))
 (.lett 9 (.int .u8) (.sel (.var 6) tab8)
 (.nz (.var 7)
 (.nz (.var 8)
 (.lett 10 (.int .i64) (.bin .add .i64 (.lit 40) (.var 9))
 (.ret [.var 10])))))))))
 (.lett 5 (.int .u8) (.conv .u8 (.var 2))
 (.lett 6 .bit (.cmp .leq (.lit 0) (.var 5))
 (.lett 7 .bit (.cmp .lss (.var 5) (.lit 256))
 (.lett 8 (.int .u8) (.sel (.var 5) tab8)
 (.nz (.var 6)
 (.nz (.var 7)
 (.lett 9 (.int .i64) (.bin .add .i64 (.lit 32) (.var 8))
 (.ret [.var 9])))))))))))))
(.lett 2 .bit (.cmp .geq (.var 0) (.lit 65536))
(.split 2
 (.lett 3 (.int .u64) (.bin .shr .u64 (.var 0) (.lit 16))
 (.lett 4 .bit (.cmp .geq (.var 3) (.lit 256))
 (.split 4
 (.lett 5 (.int .u64) (.bin .shr .u64 (.var 3) (.lit 8))
 (.lett 6 (.int .u8) (.conv .u8 (.var 5))
 (.lett 7 .bit (.cmp .leq (.lit 0) (.var 6))
 (.lett 8 .bit (.cmp .lss (.var 6) (.lit 256))
 (.lett 9 (.int .u8) (.sel (.var 6) tab8)
 (.nz (.var 7)
 (.nz (.var 8)
 (.lett 10 (.int .i64) (.bin .add .i64 (.lit 24) (.var 9))
 (.ret [.var 10])))))))))
 (.lett 5 (.int .u8) (.conv .u8 (.var 3))
 (.lett 6 .bit (.cmp .leq (.lit 0) (.var 5))
 (.lett 7 .bit (.cmp .lss (.var 5) (.lit 256))
 (.lett 8 (.int .u8) (.sel (.var 5) tab8)
 (.nz (.var 6)
 (.nz (.var 7)
 (.lett 9 (.int .i64) (.bin .add .i64 (.lit 16) (.var 8))
 (.ret [.var 9])))))))))))
 (.lett 3 .bit (.cmp .geq (.var 0) (.lit 256))
 (.split 3
 (.lett 4 (.int .u64) (.bin .shr .u64 (.var 0) (.lit 8))
 (.lett 5 (.int .u8) (.conv .u8 (.var 4))
 (.lett 6 .bit (.cmp .leq (.lit 0) (.var 5))
 (.lett 7 .bit (.cmp .lss (.var 5) (.lit 256))
 (.lett 8 (.int .u8) (.sel (.var 5) tab8)
 (.nz (.var 6)
 (.nz (.var 7)
 (.lett 9 (.int .i64) (.bin .add .i64 (.lit 8) (.var 8))
 (.ret [.var 9])))))))))
 (.lett 4 (.int .u8) (.conv .u8 (.var 0))
 (.lett 5 .bit (.cmp .leq (.lit 0) (.var 4))
 (.lett 6 .bit (.cmp .lss (.var 4) (.lit 256))
 (.lett 7 (.int .u8) (.sel (.var 4) tab8)
 (.nz (.var 5)
 (.nz (.var 6)
 (.lett 8 (.int .i64) (.bin .add .i64 (.lit 0) (.var 7))
 (.ret [.var 8]))))))))))))))
theorem len_leaf {e:Nat->Int} {x v w t r c:Int} (k:Nat) (hx:0<=x) (hv:v=x/2^k) (h0:0<=v) (h1:v<256) (h2:k=0∨(2:Int)^k<=x) (hw:w=wr .u8 v) (ht:t=(tab8.map (·.ev e)).getD w.toNat 0) (hk:k<=56) (hc:c=k) (hr:r=binE .add .i64 c t):r=blen x:=by
 have hw':w=v:=by simp only [wr] at hw;omega
 obtain ⟨n,hn⟩:=Int.eq_ofNat_of_zero_le h0
 rw [hw',hn,Int.toNat_natCast,tab8_ok n (by omega),<- hn] at ht
 have hb:blen v<=8:=blen_le 8 v h0 (by rw [show (2:Int)^8=256 from rfl];exact h1)
 have hb0:=blen_nn v
 have:blen x=k+blen v:=by
  rcases h2 with h2 | h2
  ·subst h2;simp at hv;rw [hv];simp
  ·rw [hv];exact blen_shift k x h2
 rw [hr,this,<- ht,hc]
 simp only [binE,wr]
 omega
theorem bit_nz {v w:Int} (h:v=b2i (cmpE .leq 0 w)) (hw:0<=w):v≠0:=by have:=c_le h;omega
theorem lt_nz {v w b:Int} (h:v=b2i (cmpE .lss w b)) (hw:w<b):v≠0:=by have:=c_lt h;omega
theorem law_len64 (f:FuncId) (e:Nat->Int) (hk:kkHas [.int .u64] [e 0]):tLen64.says [] ⟨fun ys=>ys=(kLen64 f).sem [e 0],[]⟩ e:=by
 have hx:=has_u64 hk.1
 have p8:(2:Int)^8=256:=rfl
 have p16:(2:Int)^16=65536:=rfl
 have p24:(2:Int)^24=16777216:=rfl
 have p32:(2:Int)^32=4294967296:=rfl
 have p40:(2:Int)^40=1099511627776:=rfl
 have p48:(2:Int)^48=281474976710656:=rfl
 have p56:(2:Int)^56=72057594037927936:=rfl
 simp only [tLen64,kLen64,Tree.says,List.getElem?_cons_zero,List.getElem?_cons_succ,List.map,ev_lit,ev_var,ev_limb,D.ev,List.getD_cons_zero,List.getD_cons_succ]
 intro a1 _
 have b1:=c_ge a1
 refine ⟨fun n1=>?_,fun n1=>?_⟩
 ·intro a2 _ a3 _
  have d2:=shr_d 4294967296 a2 rfl (by decide)
  have b3:=c_ge a3
  refine ⟨fun n3=>?_,fun n3=>?_⟩
  ·intro a4 _ a5 _
   have d4:=shr_d 65536 a4 rfl (by decide)
   have b5:=c_ge a5
   refine ⟨fun n5=>?_,fun n5=>?_⟩
   ·intro a6 _ a7 _ a8 _ a9 _ a10 _
    have d6:=shr_d 256 a6 rfl (by decide)
    have h7:e 7=e 6:=by simp only [wr] at a7;omega
    refine ⟨bit_nz a8 (by omega),lt_nz a9 (by omega),fun a11 _=>?_⟩
    rw [len_leaf (x:=e 0) 56 hx.1 (by omega) (by omega) (by omega) (.inr (by omega)) a7 a10 (by omega) rfl a11]
   ·intro a6 _ a8 _ a9 _ a10 _
    have h7:e 6=e 4:=by simp only [wr] at a6;omega
    refine ⟨bit_nz a8 (by omega),lt_nz a9 (by omega),fun a11 _=>?_⟩
    rw [len_leaf (x:=e 0) 48 hx.1 (by omega) (by omega) (by omega) (.inr (by omega)) a6 a10 (by omega) rfl a11]
  ·intro a5 _
   have b5:=c_ge a5
   refine ⟨fun n5=>?_,fun n5=>?_⟩
   ·intro a6 _ a7 _ a8 _ a9 _ a10 _
    have d6:=shr_d 256 a6 rfl (by decide)
    have h7:e 6=e 5:=by simp only [wr] at a7;omega
    refine ⟨bit_nz a8 (by omega),lt_nz a9 (by omega),fun a11 _=>?_⟩
    rw [len_leaf (x:=e 0) 40 hx.1 (by omega) (by omega) (by omega) (.inr (by omega)) a7 a10 (by omega) rfl a11]
   ·intro a6 _ a8 _ a9 _ a10 _
    have h7:e 5=e 2:=by simp only [wr] at a6;omega
    refine ⟨bit_nz a8 (by omega),lt_nz a9 (by omega),fun a11 _=>?_⟩
    rw [len_leaf (x:=e 0) 32 hx.1 (by omega) (by omega) (by omega) (.inr (by omega)) a6 a10 (by omega) rfl a11]
 ·intro a3 _
  have b3:=c_ge a3
  refine ⟨fun n3=>?_,fun n3=>?_⟩
  ·intro a4 _ a5 _
   have d4:=shr_d 65536 a4 rfl (by decide)
   have b5:=c_ge a5
   refine ⟨fun n5=>?_,fun n5=>?_⟩
   ·intro a6 _ a7 _ a8 _ a9 _ a10 _
    have d6:=shr_d 256 a6 rfl (by decide)
    have h7:e 6=e 5:=by simp only [wr] at a7;omega
    refine ⟨bit_nz a8 (by omega),lt_nz a9 (by omega),fun a11 _=>?_⟩
    rw [len_leaf (x:=e 0) 24 hx.1 (by omega) (by omega) (by omega) (.inr (by omega)) a7 a10 (by omega) rfl a11]
   ·intro a6 _ a8 _ a9 _ a10 _
    have h7:e 5=e 3:=by simp only [wr] at a6;omega
    refine ⟨bit_nz a8 (by omega),lt_nz a9 (by omega),fun a11 _=>?_⟩
    rw [len_leaf (x:=e 0) 16 hx.1 (by omega) (by omega) (by omega) (.inr (by omega)) a6 a10 (by omega) rfl a11]
  ·intro a5 _
   have b5:=c_ge a5
   refine ⟨fun n5=>?_,fun n5=>?_⟩
   ·intro a6 _ a7 _ a8 _ a9 _ a10 _
    have d6:=shr_d 256 a6 rfl (by decide)
    have h7:e 5=e 4:=by simp only [wr] at a7;omega
    refine ⟨bit_nz a8 (by omega),lt_nz a9 (by omega),fun a11 _=>?_⟩
    rw [len_leaf (x:=e 0) 8 hx.1 (by omega) (by omega) (by omega) (.inr (by omega)) a7 a10 (by omega) rfl a11]
   ·intro a6 _ a8 _ a9 _ a10 _
    have h7:e 4=e 0:=by simp only [wr] at a6;omega
    refine ⟨bit_nz a8 (by omega),lt_nz a9 (by omega),fun a11 _=>?_⟩
    rw [len_leaf (x:=e 0) 0 hx.1 (by simp) (by omega) (by omega) (.inl rfl) a6 a10 (by omega) rfl a11]
set_option maxRecDepth 100000
theorem p320:(2:Int)^320=2135987035920910082395021706169552114602704522356652769947041607822219725780640550022962086936576:=by decide +kernel
theorem p256:(2:Int)^256=115792089237316195423570985008687907853269984665640564039457584007913129639936:=by decide +kernel
theorem p192:(2:Int)^192=6277101735386680763835789423207666416102355444464034512896:=by decide +kernel
theorem p128:(2:Int)^128=340282366920938463463374607431768211456:=by decide +kernel
theorem p64':(2:Int)^64=18446744073709551616:=by decide +kernel
theorem p382:(2:Int)^382=9850501549098619803069760025035903451269934817616361666987073351061430442874302652853566563721228910201656997576704:=by decide +kernel
theorem len_word {x l r c t:Int} (k:Nat) (h1:x/2^k=l) (h2:1<=l) (hl:U l) (hc:c=k) (hk:k<=320) (ht:t=blen l) (hr:r=binE .add .i64 c t):r=blen x:=by
 have hp:(0:Int)<2^k:=Int.pow_pos (by omega)
 have:(2:Int)^k<=x:=by
  have:=Int.mul_le_of_le_ediv (a:=1) hp (show (1:Int)<=x/2^k by omega);omega
 rw [blen_shift k x this,h1]
 have b0:=blen_nn l
 have b1:=blen_le 64 l hl.1 (by rw [p64'];exact hl.2)
 rw [hr,hc,ht]
 simp only [binE,wr]
 omega
def tWLen:Tree:=(.lett 1 .bit (.cmp .neq (.limb 0 5) (.lit 0))
(.split 1
(.req 0 [.limb 0 5]
(.lett 2 (.int .i64) (.app 0 0 [.limb 0 5])
(.lett 3 (.int .i64) (.bin .add .i64 (.lit 320) (.var 2))
(.ret [.var 3]))))
(.lett 2 .bit (.cmp .neq (.limb 0 4) (.lit 0))
(.split 2
 (.req 0 [.limb 0 4]
 (.lett 3 (.int .i64) (.app 0 0 [.limb 0 4])
 (.lett 4 (.int .i64) (.bin .add .i64 (.lit 256) (.var 3))
 (.ret [.var 4]))))
 (.lett 3 .bit (.cmp .neq (.limb 0 3) (.lit 0))
 (.split 3
 (.req 0 [.limb 0 3]
 (.lett 4 (.int .i64) (.app 0 0 [.limb 0 3])
 (.lett 5 (.int .i64) (.bin .add .i64 (.lit 192) (.var 4))
 (.ret [.var 5]))))
 (.lett 4 .bit (.cmp .neq (.limb 0 2) (.lit 0))
 (.split 4
 (.req 0 [.limb 0 2]
 (.lett 5 (.int .i64) (.app 0 0 [.limb 0 2])
 (.lett 6 (.int .i64) (.bin .add .i64 (.lit 128) (.var 5))
 (.ret [.var 6]))))
 (.lett 5 .bit (.cmp .neq (.limb 0 1) (.lit 0))
 (.split 5
 (.req 0 [.limb 0 1]
 (.lett 6 (.int .i64) (.app 0 0 [.limb 0 1])
 (.lett 7 (.int .i64) (.bin .add .i64 (.lit 64) (.var 6))
 (.ret [.var 7]))))
 (.lett 6 .bit (.cmp .neq (.limb 0 0) (.lit 0))
 (.split 6
 (.req 0 [.limb 0 0]
 (.lett 7 (.int .i64) (.app 0 0 [.limb 0 0])
 (.lett 8 (.int .i64) (.bin .add .i64 (.lit 0) (.var 7))
 (.ret [.var 8]))))
 (.ret [.lit 0])))))))))))))
theorem law_wLen (f1 f:FuncId) (e:Nat->Int) (hk:kkHas [.num] [e 0]):tWLen.says [kLen64 f1] ⟨fun ys=>ys=(kWLen f).sem [e 0],[]⟩ e:=by
 have hx:=hk.1
 have ex:=lim_eq hx
 have l0:=lim_lt (e 0) 0
 have l1:=lim_lt (e 0) 1
 have l2:=lim_lt (e 0) 2
 have l3:=lim_lt (e 0) 3
 have l4:=lim_lt (e 0) 4
 have l5:=lim_lt (e 0) 5
 simp only [tWLen,kLen64,kWLen,Tree.says,List.getElem?_cons_zero,List.getElem?_cons_succ,List.map,ev_lit,ev_var,ev_limb,D.ev,List.getD_cons_zero,List.getD_cons_succ]
 generalize lim (e 0) 0=x0 at *
 generalize lim (e 0) 1=x1 at *
 generalize lim (e 0) 2=x2 at *
 generalize lim (e 0) 3=x3 at *
 generalize lim (e 0) 4=x4 at *
 generalize lim (e 0) 5=x5 at *
 have q5:e 0/2^320=x5:=by rw [p320];omega
 intro a _
 have b:=c_ne a
 refine ⟨fun n=>⟨trivial,fun a2 _ a3 _=>by rw [len_word 320 q5 (by omega) l5 rfl (by omega) a2 a3]⟩,fun n=>?_⟩
 have z5:x5=0:=by omega
 have q4:e 0/2^256=x4:=by rw [p256];omega
 clear q5 a b n
 intro a _
 have b:=c_ne a
 refine ⟨fun n=>⟨trivial,fun a2 _ a3 _=>by rw [len_word 256 q4 (by omega) l4 rfl (by omega) a2 a3]⟩,fun n=>?_⟩
 have z4:x4=0:=by omega
 have q3:e 0/2^192=x3:=by rw [p192];omega
 clear q4 a b n
 intro a _
 have b:=c_ne a
 refine ⟨fun n=>⟨trivial,fun a2 _ a3 _=>by rw [len_word 192 q3 (by omega) l3 rfl (by omega) a2 a3]⟩,fun n=>?_⟩
 have z3:x3=0:=by omega
 have q2:e 0/2^128=x2:=by rw [p128];omega
 clear q3 a b n
 intro a _
 have b:=c_ne a
 refine ⟨fun n=>⟨trivial,fun a2 _ a3 _=>by rw [len_word 128 q2 (by omega) l2 rfl (by omega) a2 a3]⟩,fun n=>?_⟩
 have z2:x2=0:=by omega
 have q1:e 0/2^64=x1:=by rw [p64'];omega
 clear q2 a b n
 intro a _
 have b:=c_ne a
 refine ⟨fun n=>⟨trivial,fun a2 _ a3 _=>by rw [len_word 64 q1 (by omega) l1 rfl (by omega) a2 a3]⟩,fun n=>?_⟩
 have z1:x1=0:=by omega
 clear q1 a b n
 intro a _
 have b:=c_ne a
 refine ⟨fun n=>⟨trivial,fun a2 _ a3 _=>by rw [len_word 0 (x:=e 0) (by simp;omega) (by omega) l0 rfl (by omega) a2 a3]⟩,fun n=>?_⟩
 have z0:e 0=0:=by omega
 rw [z0];rfl
theorem lim_div {x:Int} (j:Nat):lim x j=x/2^(64*j)%18446744073709551616:=by
 unfold lim p64;rw [Int.natCast_pow];rfl
theorem or_dis {k:Nat} {v a b q:Int} (h:v=binE .or .u64 a b) (ha:a=q*(2^k:Nat)) (hq:0<=q) (hb:0<=b/\b<(2^k:Nat)) (hab:a+b<18446744073709551616):v=a+b:=by
 obtain ⟨n,hn⟩:=Int.eq_ofNat_of_zero_le hq
 obtain ⟨m,hm⟩:=Int.eq_ofNat_of_zero_le hb.1
 have ha':a=((2^k*n:Nat):Int):=by rw [ha,hn,Nat.mul_comm];simp
 have hlt:2^k*n+m<2^64:=by rw [ha',hm] at hab;omega
 rw [h]
 show wr .u64 ((BitVec.ofInt 64 a ||| BitVec.ofInt 64 b).toNat:Int)=_
 rw [ha',hm,BitVec.ofInt_natCast,BitVec.ofInt_natCast,BitVec.toNat_or,BitVec.toNat_ofNat,BitVec.toNat_ofNat,Nat.mod_eq_of_lt (by omega),Nat.mod_eq_of_lt (by omega),<- Nat.two_pow_add_eq_or_of_lt (by rw [hm] at hb;omega)]
 simp only [wr];omega
theorem or_1 {v s r lj lp:Int} (h:v=binE .or .u64 s r) (hs:s=binE .shl .u64 lj 1) (hr:r=binE .shr .u64 lp 63) (uj:U lj) (up:U lp):v=2*lj%18446744073709551616+lp/9223372036854775808:=by
 have h1:=shl_d 2 hs rfl
 have h2:=shr_d 9223372036854775808 hr (by decide) (by decide)
 unfold U at *
 simp only [wr] at h1
 rw [or_dis (k:=1) (q:=lj%9223372036854775808) h (by omega) (by omega) (by omega) (by omega)]
 omega
theorem and_1 {v x:Int} (h:v=binE .and .u64 x 1) (hx:U x):v=x%2:=by rw [h];exact and_mask x 1 (by omega) hx
set_option maxRecDepth 100000
theorem mOk.odd {n low:Int} (h:mOk n low):n%2=1:=odd_of h.1
theorem mOk.low_ne {n low:Int} (h:mOk n low):low≠0:=fun h0=>by have:=h.1;rw [h0] at this;simp at this
theorem mOk.lt {n low:Int} (h:mOk n low):2*n<N384:=by have:=h.2.2;rw [p382] at this;unfold N384;omega
theorem RR {n:Int} (h:n%2=1):∃ z,wideOf n*half2 n^384*half2 n^384=1+n*z:=by
 obtain ⟨z,hz⟩:=half_R h
 obtain ⟨y,hy⟩:=md_of (x:=(2:Int)^768) (n:=n)
 refine ⟨?_,?_⟩
 ·exact 2*z+n*z*z+y*(half2 n^384*half2 n^384)
 ·unfold wideOf
  rw [hy,show (2:Int)^768=N384*N384 by decide +kernel]
  generalize half2 n^384=I at *
  generalize N384=R at *
  have:(R*I)*(R*I)=(1+n*z)*(1+n*z):=by rw [hz]
  grind
theorem RR1 {n:Int} (h:n%2=1):∃ z,wideOf n*half2 n^384=N384+n*z:=by
 obtain ⟨z,hz⟩:=half_R h
 obtain ⟨y,hy⟩:=md_of (x:=(2:Int)^768) (n:=n)
 refine ⟨?_,?_⟩
 ·exact N384*z+y*half2 n^384
 ·unfold wideOf
  rw [hy,show (2:Int)^768=N384*N384 by decide +kernel]
  generalize half2 n^384=I at *
  generalize N384=R at *
  have:R*(R*I)=R*(1+n*z):=by rw [hz]
  grind
theorem mont_mul {n a b:Int} (h:n%2=1):montv n (montv n a (wideOf n)) b=a*b%n:=by
 obtain ⟨z,hz⟩:=RR h
 obtain ⟨y,hy⟩:=md_of (x:=a*wideOf n*half2 n^384) (n:=n)
 show (a*wideOf n*half2 n^384%n)*b*half2 n^384%n=_
 rw [hy]
 refine md (a*b*z+y*b*half2 n^384) ?_
 generalize half2 n^384=I at *
 generalize wideOf n=w at *
 have:a*b*(w*I*I)=a*b*(1+n*z):=by rw [hz]
 grind
theorem mont_out {n a:Int} (h:n%2=1):montv n (montv n a (wideOf n)) 1=a%n:=by rw [mont_mul h,Int.mul_one]
theorem montv_lt {n a b:Int} (h:0<n):0<=montv n a b/\montv n a b<n:=md_lt h
theorem wide_lt {n:Int} (h:0<n):0<=wideOf n/\wideOf n<n:=md_lt h
def tOf:Tree:=(.lett 1 .num (.join [.var 0,.lit 0,.lit 0,.lit 0,.lit 0,.lit 0])
(.ret [.var 1]))
theorem law_of (f:FuncId) (e:Nat->Int) (hk:kkHas [.int .u64] [e 0]):tOf.says [] ⟨fun ys=>ys=(kOf f).sem [e 0],[]⟩ e:=by
 simp only [tOf,kOf,Tree.says,List.getElem?_cons_zero,List.getElem?_cons_succ,List.map,ev_lit,ev_var,ev_limb,D.ev,List.getD_cons_zero,List.getD_cons_succ]
 intro a _
 rw [a];simp [joinE]
def tReduce:Tree:=(.lett 4 .bit (.cmp .eql (.var 1) (.lit 0))
(.split 4
(.ret [.lit 0])
(.req 0 [.var 3,.var 0]
(.lett 245 (.int .i64) (.app 0 0 [.var 3,.var 0])
(.lett 293 .bit (.cmp .lss (.var 245) (.lit 0))
(.split 293
 (.ret [.var 3])
 (.req 1 [.var 0,.var 1,.var 2,.var 3,.var 2]
 (.lett 677 .num (.app 1 0 [.var 0,.var 1,.var 2,.var 3,.var 2])
 (.req 2 [.lit 1]
 (.lett 725 .num (.app 2 0 [.lit 1])
 (.req 1 [.var 0,.var 1,.var 2,.var 677,.var 725]
 (.lett 773 .num (.app 1 0 [.var 0,.var 1,.var 2,.var 677,.var 725])
 (.ret [.var 773])))))))))))))
theorem law_reduce (f1 f2 f3 f:FuncId) (e:Nat->Int) (hk:kkHas [.num,.int .u64,.num,.num] [e 0,e 1,e 2,e 3]) (hp:(kReduce f).pre [e 0,e 1,e 2,e 3]):tReduce.says [kWCmp f1,kMont f2,kOf f3] ⟨fun ys=>ys=(kReduce f).sem [e 0,e 1,e 2,e 3],[]⟩ e:=by
 obtain ⟨h0,h1,h2,h3,_⟩:=hk
 obtain ⟨hm,hw⟩:=hp
 have hn:=hm.2.1
 simp only [KK.has] at h3
 simp only [tReduce,kReduce,kWCmp,kMont,kOf,Tree.says,List.getElem?_cons_zero,List.getElem?_cons_succ,List.map,ev_lit,ev_var,ev_limb,D.ev,List.getD_cons_zero,List.getD_cons_succ]
 intro a _
 have b:=c_eq a
 have:=hm.low_ne
 refine ⟨fun n=>by omega,fun n=>⟨trivial,fun a1 _ a2 _=>?_⟩⟩
 have b2:=c_lt a2
 refine ⟨fun n=>?_,fun n=>?_⟩
 ·have:e 3<e 0:=by
   by_cases hc:e 3<e 0
   ·exact hc
   ·rw [if_neg hc] at a1;split at a1 <;> omega
  rw [Int.emod_eq_of_lt h3.1 this]
 ·have hwl:=wide_lt (n:=e 0) (by omega)
  refine ⟨⟨hm,.inr (by rw [hw];exact hwl.2)⟩,fun a3 _=>⟨trivial,fun a4 _=>⟨⟨hm,.inl (by rw [a3];exact (montv_lt (by omega)).2)⟩,fun a5 _=>?_⟩⟩⟩
  rw [a5,a4,a3,hw,mont_out hm.odd]
theorem cong2 {n a b:Int}:(a%n+b%n)%n=(a+b)%n:=by rw [Int.add_emod_emod,Int.emod_add_emod]
def tMAdd:Tree:=(.lett 5 .bit (.cmp .eql (.var 1) (.lit 0))
(.split 5
(.ret [.lit 0])
(.req 0 [.var 0,.var 1,.var 2,.var 3]
(.lett 102 .num (.app 0 0 [.var 0,.var 1,.var 2,.var 3])
(.req 0 [.var 0,.var 1,.var 2,.var 4]
(.lett 246 .num (.app 0 0 [.var 0,.var 1,.var 2,.var 4])
(.req 1 [.var 102,.var 246]
(.lett 294 .num (.app 1 0 [.var 102,.var 246])
(.lett 295 .bit (.app 1 1 [.var 102,.var 246])
(.req 2 [.var 0,.var 1,.var 2,.var 294]
(.lett 630 .num (.app 2 0 [.var 0,.var 1,.var 2,.var 294])
(.ret [.var 630]))))))))))))
theorem law_mAdd (f1 f2 f3 f:FuncId) (e:Nat->Int) (hk:kkHas [.num,.int .u64,.num,.num,.num] [e 0,e 1,e 2,e 3,e 4]) (hp:(kMAdd f).pre [e 0,e 1,e 2,e 3,e 4]):tMAdd.says [kReduce f1,kWAdd f2,kLess f3] ⟨fun ys=>ys=(kMAdd f).sem [e 0,e 1,e 2,e 3,e 4],[]⟩ e:=by
 obtain ⟨hm,hw⟩:=hp
 have hn:=hm.2.1
 have hl:=hm.lt
 simp only [tMAdd,kReduce,kWAdd,kLess,kMAdd,Tree.says,List.getElem?_cons_zero,List.getElem?_cons_succ,List.map,ev_lit,ev_var,ev_limb,D.ev,List.getD_cons_zero,List.getD_cons_succ]
 intro a _
 have b:=c_eq a
 have:=hm.low_ne
 refine ⟨fun n=>by omega,fun n=>⟨⟨hm,hw⟩,fun a1 _=>⟨⟨hm,hw⟩,fun a2 _=>⟨trivial,fun a3 _ a4 _=>⟨trivial,fun a5 _=>?_⟩⟩⟩⟩⟩
 have m1:=md_lt (x:=e 3) (n:=e 0) (by omega)
 have m2:=md_lt (x:=e 4) (n:=e 0) (by omega)
 rw [<- a1] at m1
 rw [<- a2] at m2
 rw [Int.emod_eq_of_lt (by omega) (by omega)] at a3
 rw [a5,<- cong2,<- a1,<- a2,<- a3]
 congr 1
 split
 ·exact (md_eq 1 (by omega) (by omega) (by omega)).symm
 ·exact (Int.emod_eq_of_lt (by omega) (by omega)).symm
def tMMul:Tree:=(.lett 5 .bit (.cmp .eql (.var 1) (.lit 0))
(.split 5
(.ret [.lit 0])
(.req 0 [.var 0,.var 1,.var 2,.var 3,.var 2]
(.lett 342 .num (.app 0 0 [.var 0,.var 1,.var 2,.var 3,.var 2])
(.req 0 [.var 0,.var 1,.var 2,.var 342,.var 4]
(.lett 438 .num (.app 0 0 [.var 0,.var 1,.var 2,.var 342,.var 4])
(.ret [.var 438])))))))
theorem law_mMul (f1 f:FuncId) (e:Nat->Int) (hk:kkHas [.num,.int .u64,.num,.num,.num] [e 0,e 1,e 2,e 3,e 4]) (hp:(kMMul f).pre [e 0,e 1,e 2,e 3,e 4]):tMMul.says [kMont f1] ⟨fun ys=>ys=(kMMul f).sem [e 0,e 1,e 2,e 3,e 4],[]⟩ e:=by
 obtain ⟨hm,hw⟩:=hp
 have hn:=hm.2.1
 have hwl:=wide_lt (n:=e 0) (by omega)
 simp only [tMMul,kMont,kMMul,Tree.says,List.getElem?_cons_zero,List.getElem?_cons_succ,List.map,ev_lit,ev_var,ev_limb,D.ev,List.getD_cons_zero,List.getD_cons_succ]
 intro a _
 have b:=c_eq a
 have:=hm.low_ne
 refine ⟨fun n=>by omega,fun n=>⟨⟨hm,.inr (by rw [hw];exact hwl.2)⟩,fun a1 _=>⟨⟨hm,.inl (by rw [a1];exact (montv_lt (by omega)).2)⟩,fun a2 _=>?_⟩⟩⟩
 rw [a2,a1,hw,mont_mul hm.odd]
end Go.Sx






namespace Go.Sx
open Go Go.RowKit
set_option maxRecDepth 100000
theorem newt {N x a b:Int} (h:∃ z,N*x=1+a*z) (hb:∃ c,a*a=b*c) (hW:∃ d,18446744073709551616=b*d) :
  ∃ z,N*(x*((2-N*x%18446744073709551616)%18446744073709551616)%18446744073709551616)=1+b*z:=by
 obtain ⟨z,hz⟩:=h
 obtain ⟨c,hc⟩:=hb
 obtain ⟨d,hd⟩:=hW
 obtain ⟨t1,h1⟩:=md_of (x:=N*x) (n:=18446744073709551616)
 obtain ⟨t2,h2⟩:=md_of (x:=2-N*x%18446744073709551616) (n:=18446744073709551616)
 obtain ⟨t3,h3⟩:=md_of (x:=x*((2-N*x%18446744073709551616)%18446744073709551616)) (n:=18446744073709551616)
 rw [h3,h2,h1]
 generalize (18446744073709551616:Int)=W at *
 subst hd
 refine ⟨d*(N*t3+N*x*t2-N*x*t1)-c*z*z,?_⟩
 have e1:N*x*(N*x)=(1+a*z)*(1+a*z):=by rw [hz]
 have e2:(1+a*z)*(1+a*z)=1+2*(a*z)+b*c*z*z:=by rw [<- hc];grind
 grind
theorem sq8 {n:Int} (h:n%2=1):∃ z,n*n=1+8*z:=by
 rcases Int.emod_two_eq (n/2) with h3 | h3
 ·have h4:n=4*(n/2/2)+1:=by omega
  generalize n/2/2=q at *
  exact ⟨q*(2*q)+q,by subst h4;grind⟩
 ·have h4:n=4*(n/2/2)+3:=by omega
  generalize n/2/2=q at *
  exact ⟨q*(2*q)+3*q+1,by subst h4;grind⟩
theorem newton_s {l x a b y:Int} {k:Nat} (h1:a=l*x%18446744073709551616) (h2:b=(2-a)%18446744073709551616) (h3:y=x*b%18446744073709551616):newton l (k+1) x=newton l k y:=by
 rw [h3,h2,h1];rfl
theorem newton_ok {n:Int} (h:n%2=1):∃ z,n*newton n 6 n=1+18446744073709551616*z:=by
 have s0:=sq8 h
 have s1:=newt s0 (b:=64) ⟨1,by decide⟩ ⟨288230376151711744,by decide⟩
 have s2:=newt s1 (b:=4096) ⟨1,by decide⟩ ⟨4503599627370496,by decide⟩
 have s3:=newt s2 (b:=16777216) ⟨1,by decide⟩ ⟨1099511627776,by decide⟩
 have s4:=newt s3 (b:=281474976710656) ⟨1,by decide⟩ ⟨65536,by decide⟩
 have s5:=newt s4 (b:=18446744073709551616) ⟨4294967296,by decide⟩ ⟨1,by decide⟩
 exact newt s5 (b:=18446744073709551616) ⟨18446744073709551616,by decide⟩ ⟨1,by decide⟩
theorem lowOf_ok {n:Int} (h:n%2=1):n*lowOf n%18446744073709551616=18446744073709551615:=by
 obtain ⟨z,hz⟩:=newton_ok (n:=n%18446744073709551616) (by omega)
 unfold lowOf
 generalize newton (n%18446744073709551616) 6 (n%18446744073709551616)=x at *
 obtain ⟨t1,h1⟩:=md_of (x:=-x) (n:=18446744073709551616)
 obtain ⟨t2,h2⟩:=md_of (x:=n) (n:=18446744073709551616)
 rw [h1]
 rw [h2] at hz
 refine md_eq (n*t1+t2*x-z-1) ?_ (by decide) (by decide)
 grind
theorem new_good {n:Int} (h:n%2=1) (h3:3<=n) (hl:n<2^382):mGood n (lowOf n) (wideOf n):=⟨⟨lowOf_ok h,h3,hl⟩,rfl⟩
theorem dbl_join {x o0 o1 o2 o3 o4 o5:Int} (hx:0<=x/\x<N384) (hs:2*x<N384) (h0:o0=2*lim x 0%18446744073709551616) (h1:o1=2*lim x 1%18446744073709551616+lim x 0/9223372036854775808)
  (h2:o2=2*lim x 2%18446744073709551616+lim x 1/9223372036854775808) (h3:o3=2*lim x 3%18446744073709551616+lim x 2/9223372036854775808) (h4:o4=2*lim x 4%18446744073709551616+lim x 3/9223372036854775808)
  (h5:o5=2*lim x 5%18446744073709551616+lim x 4/9223372036854775808):joinE [o0,o1,o2,o3,o4,o5]=2*x:=by
 have ex:=lim_eq hx
 have l0:=lim_lt x 0
 have l1:=lim_lt x 1
 have l2:=lim_lt x 2
 have l3:=lim_lt x 3
 have l4:=lim_lt x 4
 have l5:=lim_lt x 5
 rw [joinE6]
 generalize lim x 0=x0 at *
 generalize lim x 1=x1 at *
 generalize lim x 2=x2 at *
 generalize lim x 3=x3 at *
 generalize lim x 4=x4 at *
 generalize lim x 5=x5 at *
 unfold N384 at hs
 omega
def tNew:Tree:=(.lett 97 (.int .u64) (.bin .and .u64 (.limb 0 0) (.lit 1))
(.lett 145 .bit (.cmp .eql (.var 97) (.lit 0))
(.split 145
(.bad 402 "")
(.req 0 [.var 0]
(.lett 289 (.int .i64) (.app 0 0 [.var 0])
(.lett 337 .bit (.cmp .gtr (.var 289) (.lit 382))
(.split 337
 (.bad 402 "")
 (.req 3 [.lit 3]
 (.lett 529 .num (.app 3 0 [.lit 3])
 (.req 1 [.var 0,.var 529]
 (.lett 577 (.int .i64) (.app 1 0 [.var 0,.var 529])
 (.lett 625 .bit (.cmp .lss (.var 577) (.lit 0))
 (.split 625
 (.bad 402 "")
 (.lett 721 (.int .u64) (.bin .mul .u64 (.limb 0 0) (.limb 0 0))
 (.lett 722 (.int .u64) (.bin .sub .u64 (.lit 2) (.var 721))
 (.lett 723 (.int .u64) (.bin .mul .u64 (.limb 0 0) (.var 722))
 (.lett 724 (.int .u64) (.bin .mul .u64 (.limb 0 0) (.var 723))
 (.lett 725 (.int .u64) (.bin .sub .u64 (.lit 2) (.var 724))
 (.lett 726 (.int .u64) (.bin .mul .u64 (.var 723) (.var 725))
 (.lett 727 (.int .u64) (.bin .mul .u64 (.limb 0 0) (.var 726))
 (.lett 728 (.int .u64) (.bin .sub .u64 (.lit 2) (.var 727))
 (.lett 729 (.int .u64) (.bin .mul .u64 (.var 726) (.var 728))
 (.lett 730 (.int .u64) (.bin .mul .u64 (.limb 0 0) (.var 729))
 (.lett 731 (.int .u64) (.bin .sub .u64 (.lit 2) (.var 730))
 (.lett 732 (.int .u64) (.bin .mul .u64 (.var 729) (.var 731))
 (.lett 733 (.int .u64) (.bin .mul .u64 (.limb 0 0) (.var 732))
 (.lett 734 (.int .u64) (.bin .sub .u64 (.lit 2) (.var 733))
 (.lett 735 (.int .u64) (.bin .mul .u64 (.var 732) (.var 734))
 (.lett 736 (.int .u64) (.bin .mul .u64 (.limb 0 0) (.var 735))
 (.lett 737 (.int .u64) (.bin .sub .u64 (.lit 2) (.var 736))
 (.lett 738 (.int .u64) (.bin .mul .u64 (.var 735) (.var 737))
 (.lett 739 (.int .u64) (.bin .sub .u64 (.lit 0) (.var 738))
 (.req 3 [.lit 1]
 (.lett 740 .num (.app 3 0 [.lit 1])
 (.loop [.var 740,.lit 0] [.num,(.int .i64)] 741
 (.lett 743 .bit (.cmp .lss (.var 742) (.lit 768))
 (.split 743
 (.lett 744 (.int .u64) (.bin .shl .u64 (.limb 741 0) (.lit 1))
 (.lett 745 (.int .u64) (.bin .shl .u64 (.limb 741 1) (.lit 1))
 (.lett 1130 (.int .u64) (.bin .shr .u64 (.limb 741 0) (.lit 63))
 (.lett 1178 (.int .u64) (.bin .or .u64 (.var 745) (.var 1130))
 (.lett 1322 (.int .u64) (.bin .shl .u64 (.limb 741 2) (.lit 1))
 (.lett 1707 (.int .u64) (.bin .shr .u64 (.limb 741 1) (.lit 63))
 (.lett 1755 (.int .u64) (.bin .or .u64 (.var 1322) (.var 1707))
 (.lett 1899 (.int .u64) (.bin .shl .u64 (.limb 741 3) (.lit 1))
 (.lett 2284 (.int .u64) (.bin .shr .u64 (.limb 741 2) (.lit 63))
 (.lett 2332 (.int .u64) (.bin .or .u64 (.var 1899) (.var 2284))
 (.lett 2476 (.int .u64) (.bin .shl .u64 (.limb 741 4) (.lit 1))
 (.lett 2861 (.int .u64) (.bin .shr .u64 (.limb 741 3) (.lit 63))
 (.lett 2909 (.int .u64) (.bin .or .u64 (.var 2476) (.var 2861))
 (.lett 3053 (.int .u64) (.bin .shl .u64 (.limb 741 5) (.lit 1))
 (.lett 3438 (.int .u64) (.bin .shr .u64 (.limb 741 4) (.lit 63))
 (.lett 3486 (.int .u64) (.bin .or .u64 (.var 3053) (.var 3438))
 (.lett 3630 .num (.join [.var 744,.var 1178,.var 1755,.var 2332,.var 2909,.var 3486])
 (.req 2 [.var 0,.var 739,.lit 0,.var 3630]
 (.lett 3631 .num (.app 2 0 [.var 0,.var 739,.lit 0,.var 3630])
 (.lett 3632 (.int .i64) (.bin .add .i64 (.var 742) (.lit 1))
 (.back 0 [.var 3631,.var 3632])))))))))))))))))))))
 (.ret [.var 0,.var 739,.var 741]))))))))))))))))))))))))))))))))))))))
theorem pow_step {n i x:Int} (hn:3<=n) (hi:0<=i) (hx:x=2^i.toNat%n):(if n<=2*x then 2*x-n else 2*x)=2^(i+1).toNat%n:=by
 have h1:(i+1).toNat=i.toNat+1:=by omega
 obtain ⟨z,hz⟩:=md_of (x:=(2:Int)^i.toNat) (n:=n)
 have hb:=md_lt (x:=(2:Int)^i.toNat) (n:=n) (by omega)
 rw [h1,Int.pow_succ]
 rw [<- hx] at hb hz
 have key:2^i.toNat*2%n=2*x%n:=md (-(2*z)) (by rw [hz];grind)
 rw [key]
 split
 ·exact (md_eq 1 (by omega) (by omega) (by omega)).symm
 ·exact (Int.emod_eq_of_lt (by omega) (by omega)).symm
theorem shl_1 {v x:Int} (h:v=binE .shl .u64 x 1):v=2*x%18446744073709551616:=by
 have:=shl_d 2 h rfl
 simp only [wr] at this
 omega
theorem law_new (f1 f2 f3 f4 f:FuncId) (te:TypeId) (e:Nat->Int) (hk:kkHas [.num] [e 0]) (hp:(kNew f te).pre [e 0]):tNew.says [kWLen f1,kWCmp f2,kLess f3,kOf f4] ⟨fun ys=>ys=(kNew f te).sem [e 0],[]⟩ e:=by
 obtain ⟨hodd,hn3,hn⟩:=hp
 have h0:=hk.1
 have z:=U_lim e
 have hl:2*e 0<N384:=by rw [p382] at hn;unfold N384;omega
 simp only [KK.has] at h0
 have e00:lim (e 0) 0=e 0%18446744073709551616:=lim_0 _
 simp only [tNew,kWLen,kWCmp,kLess,kOf,kNew,Tree.says,List.getElem?_cons_zero,List.getElem?_cons_succ,List.map,ev_lit,ev_var,ev_limb,D.ev,List.getD_cons_zero,List.getD_cons_succ]
 intro a1 _ a2 _
 have b1:=and_1 a1 (z 0 0)
 have b2:=c_eq a2
 refine ⟨fun n=>by clear a1 z;omega,fun n=>⟨trivial,fun a3 _ a4 _=>?_⟩⟩
 have b4:=c_gt a4
 have hb:=blen_le 382 (e 0) h0.1 hn
 rw [<- a3] at hb
 refine ⟨fun n=>by clear a1 z;omega,fun n=>⟨trivial,fun a5 _=>⟨trivial,fun a6 _ a7 _=>?_⟩⟩⟩
 have b7:=c_lt a7
 rw [a5] at a6
 have b6:¬ e 577<0:=by rw [a6];rw [if_neg (by clear a1 z;omega)];split <;> decide
 refine ⟨fun n=>by clear a1 z;omega,fun n=>?_⟩
 intro c1 _ c2 _ c3 _ c4 _ c5 _ c6 _ c7 _ c8 _ c9 _ c10 _ c11 _ c12 _ c13 _ c14 _ c15 _ c16 _ c17 _ c18 _ c19 _
 have hlow:e 739=lowOf (e 0):=by
  simp only [binE,wr] at c1 c2 c3 c4 c5 c6 c7 c8 c9 c10 c11 c12 c13 c14 c15 c16 c17 c18 c19
  unfold lowOf
  rw [<- e00,newton_s c1 c2 c3,newton_s c4 c5 c6,newton_s c7 c8 c9,newton_s c10 c11 c12,newton_s c13 c14 c15,newton_s c16 c17 c18,c19,Int.zero_sub]
  rfl
 clear c1 c2 c3 c4 c5 c6 c7 c8 c9 c10 c11 c12 c13 c14 c15 c16 c17 c18 c19
 refine ⟨trivial,fun d1 _=>?_⟩
 refine ⟨fun | [x,i]=>0<=i/\i<=768/\x=2^i.toNat%e 0 | _=>False,fun | [_,i]=>(768-i).toNat | _=>0,?_,fun e' he hkk hI=>?_⟩
 ·refine ⟨by decide,by decide,?_⟩
  rw [d1];show (1:Int)=1%e 0;symm;exact Int.emod_eq_of_lt (by decide) (by omega)
 ·obtain ⟨i0,i1,i2⟩:0<=e' 742/\e' 742<=768/\e' 741=2^(e' 742).toNat%e 0:=hI
  have hx:=md_lt (x:=(2:Int)^(e' 742).toNat) (n:=e 0) (by omega)
  rw [<- i2] at hx
  intro g1 _
  have g2:=c_lt g1
  refine ⟨fun n=>?_,fun n=>?_⟩
  ·intro s0 _ s1 _ r1 _ o1 _ s2 _ r2 _ o2 _ s3 _ r3 _ o3 _ s4 _ r4 _ o4 _ s5 _ r5 _ o5 _ oj _
   have zz:=U_lim e'
   have hj:=dbl_join (x:=e' 741) (by constructor <;> (clear s0 s1 r1 o1 s2 r2 o2 s3 r3 o3 s4 r4 o4 s5 r5 o5 oj z zz;omega)) (by clear s0 s1 r1 o1 s2 r2 o2 s3 r3 o3 s4 r4 o4 s5 r5 o5 oj z zz;omega) (shl_1 s0) (or_1 o1 s1 r1 (zz _ _) (zz _ _)) (or_1 o2 s2 r2 (zz _ _) (zz _ _)) (or_1 o3 s3 r3 (zz _ _) (zz _ _)) (or_1 o4 s4 r4 (zz _ _) (zz _ _)) (or_1 o5 s5 r5 (zz _ _) (zz _ _))
   rw [<- oj] at hj
   clear oj s0 s1 r1 o1 s2 r2 o2 s3 r3 o3 s4 r4 o4 s5 r5 o5 z zz
   refine ⟨trivial,fun k1 _ k2 _=>?_⟩
   rw [he 0 (by decide),hj] at k1
   have hi:e' 3632=e' 742+1:=by rw [k2];simp only [binE,wr];omega
   show (0<=e' 3632/\e' 3632<=768/\e' 3631=2^(e' 3632).toNat%e 0)/\(768-e' 3632).toNat<(768-e' 742).toNat
   rw [hi,k1,pow_step hn3 i0 i2]
   exact ⟨⟨by omega,by omega,rfl⟩,by omega⟩
  ·have hi:e' 742=768:=by omega
   rw [he 0 (by decide),he 739 (by decide),hlow,i2,hi]
   rfl
theorem rOf_ok {s:Int} (h:isS s):rOf s%2=1/\3<=rOf s/\rOf s<2^382:=by
 obtain ⟨h0,h1⟩:=h
 have:s=0∨s=1∨s=2:=by omega
 rw [p382]
 rcases this with h | h | h <;> subst h <;> decide
def tOrder:Tree:=(.lett 1 .bit (.cmp .eql (.var 0) (.lit 0))
(.split 1
(.ret [.lit 52435875175126190479447740508185965837690552500527637822603658699938581184513])
(.lett 2 .bit (.cmp .eql (.var 0) (.lit 1))
(.split 2
 (.ret [.lit 65521])
 (.lett 3 .bit (.cmp .eql (.var 0) (.lit 2))
 (.split 3
 (.ret [.lit 72057594037927889])
 (.ret [.lit 0])))))))
theorem law_order (f:FuncId) (e:Nat->Int) (hk:kkHas [.int .i64] [e 0]) (hp:(kOrder f).pre [e 0]):tOrder.says [] ⟨fun ys=>ys=(kOrder f).sem [e 0],[]⟩ e:=by
 obtain ⟨p0,p1⟩:=hp
 simp only [tOrder,kOrder,Tree.says,List.getElem?_cons_zero,List.getElem?_cons_succ,List.map,ev_lit,ev_var,ev_limb,D.ev,List.getD_cons_zero,List.getD_cons_succ]
 intro a1 _
 have b1:=c_eq a1
 refine ⟨fun n=>?_,fun n=>?_⟩
 ·have:e 0=0:=by omega
  rw [this];rfl
 intro a2 _
 have b2:=c_eq a2
 refine ⟨fun n=>?_,fun n=>?_⟩
 ·have:e 0=1:=by omega
  rw [this];rfl
 intro a3 _
 have b3:=c_eq a3
 refine ⟨fun n=>?_,fun n=>?_⟩
 ·have:e 0=2:=by omega
  rw [this];rfl
 ·omega
def tSOrder:Tree:=(.lett 1 .bit (.cmp .eql (.var 0) (.lit 0))
(.split 1
(.req 0 [.var 0]
(.lett 2 .num (.app 0 0 [.var 0])
(.ret [.var 2,.lit 0])))
(.lett 2 .bit (.cmp .eql (.var 0) (.lit 1))
(.split 2
 (.req 0 [.var 0]
 (.lett 3 .num (.app 0 0 [.var 0])
 (.ret [.var 3,.lit 0])))
 (.lett 3 .bit (.cmp .eql (.var 0) (.lit 2))
 (.lett 4 .bit (.not (.var 3))
 (.split 4
 (.ret [.lit 0,.lit 2])
 (.req 0 [.var 0]
 (.lett 5 .num (.app 0 0 [.var 0])
 (.ret [.var 5,.lit 0]))))))))))
theorem law_sOrder (f1 f:FuncId) (e:Nat->Int) (hk:kkHas [.int .i64] [e 0]):tSOrder.says [kOrder f1] ⟨fun ys=>ys=(kSOrder f).sem [e 0],[]⟩ e:=by
 simp only [tSOrder,kOrder,kSOrder,Tree.says,List.getElem?_cons_zero,List.getElem?_cons_succ,List.map,ev_lit,ev_var,ev_limb,D.ev,List.getD_cons_zero,List.getD_cons_succ]
 intro a1 _
 have b1:=c_eq a1
 refine ⟨fun n=>?_,fun n=>?_⟩
 ·have hs:isS (e 0):=by unfold isS;omega
  exact ⟨hs,fun a _=>by rw [if_pos hs,a]⟩
 intro a2 _
 have b2:=c_eq a2
 refine ⟨fun n=>?_,fun n=>?_⟩
 ·have hs:isS (e 0):=by unfold isS;omega
  exact ⟨hs,fun a _=>by rw [if_pos hs,a]⟩
 intro a3 _ a4 _
 have b3:=c_eq a3
 have b4:=c_not a4
 refine ⟨fun n=>?_,fun n=>?_⟩
 ·rw [if_neg (by unfold isS;omega)]
 ·have hs:isS (e 0):=by unfold isS;omega
  exact ⟨hs,fun a _=>by rw [if_pos hs,a]⟩
def br2 (b:Nat):Tree:=(.req 0 [.var 0]
(.lett b .num (.app 0 0 [.var 0])
(.req 1 [.var 1,(.var b)]
(.lett (b+1) (.int .i64) (.app 1 0 [.var 1,(.var b)])
(.lett (b+2) .bit (.cmp .geq (.var (b+1)) (.lit 0))
(.split (b+2)
 (.ret [.lit 0,.lit 2])
 (.req 1 [.var 2,(.var b)]
 (.lett (b+3) (.int .i64) (.app 1 0 [.var 2,(.var b)])
 (.lett (b+4) .bit (.cmp .geq (.var (b+3)) (.lit 0))
 (.split (b+4)
 (.ret [.lit 0,.lit 2])
 (.req 2 [(.var b)]
 (.lett (b+5) .num (.app 2 0 [(.var b)])
 (.lett (b+6) (.int .u64) (.app 2 1 [(.var b)])
 (.lett (b+7) .num (.app 2 2 [(.var b)])
 (.req 3 [(.var (b+5)),(.var (b+6)),(.var (b+7)),.var 1,.var 2]
 (.lett (b+8) .num (.app 3 0 [(.var (b+5)),(.var (b+6)),(.var (b+7)),.var 1,.var 2])
 (.ret [(.var (b+8)),.lit 0])))))))))))))))))
def tS2:Tree:=(.lett 3 .bit (.cmp .eql (.var 0) (.lit 0))
(.split 3 (br2 4)
(.lett 4 .bit (.cmp .eql (.var 0) (.lit 1))
(.split 4 (br2 5)
(.lett 5 .bit (.cmp .eql (.var 0) (.lit 2))
(.lett 6 .bit (.not (.var 5))
(.split 6
 (.ret [.lit 0,.lit 2])
 (br2 7))))))))
theorem cmp_ge {a b v w:Int} (h:v=if a<b then -1 else if a=b then 0 else 1) (hw:w=b2i (cmpE .geq v 0)):(w=1/\b<=a)∨(w=0/\a<b):=by
 have:=c_ge hw
 split at h
 ·omega
 ·split at h <;> omega
theorem br2_says {X:K} {op:Int->Int->Int} (f0 f1 f2:FuncId) (te:TypeId) (hpre:∀ n l w a b,mGood n l w->X.pre [n,l,w,a,b]) (hsem:∀ n l w a b,X.sem [n,l,w,a,b]=[op a b%n]) (e:Nat->Int) (hs:isS (e 0)) (b:Nat) :
  (br2 b).says [kOrder f0,kWCmp f1,kNew f2 te,X] ⟨fun ys=>ys=sem2 op [e 0,e 1,e 2],[]⟩ e:=by
 simp only [br2,kOrder,kWCmp,kNew,sem2,hsem,Tree.says,List.getElem?_cons_zero,List.getElem?_cons_succ,List.map,ev_lit,ev_var,ev_limb,D.ev,List.getD_cons_zero,List.getD_cons_succ]
 refine ⟨hs,fun a0 _=>⟨trivial,fun a1 _ a2 _=>?_⟩⟩
 have b2:=cmp_ge a1 a2
 rw [a0] at b2
 refine ⟨fun n=>by rw [if_neg (by omega)],fun n=>⟨trivial,fun a3 _ a4 _=>?_⟩⟩
 have b4:=cmp_ge a3 a4
 rw [a0] at b4
 refine ⟨fun n'=>by rw [if_neg (by omega)],fun n'=>?_⟩
 obtain ⟨r1,r2,r3⟩:=rOf_ok hs
 rw [a0]
 refine ⟨⟨r1,r2,r3⟩,fun a5 _ a6 _ a7 _=>⟨hpre _ _ _ _ _ (by rw [a5,a6,a7];exact new_good r1 r2 r3),fun a8 _=>?_⟩⟩
 rw [if_pos ⟨hs,by omega,by omega⟩,a8,a5]
theorem law_s2 {X:K} {op:Int->Int->Int} (f0 f1 f2 f:FuncId) (te:TypeId) (hpre:∀ n l w a b,mGood n l w->X.pre [n,l,w,a,b]) (hsem:∀ n l w a b,X.sem [n,l,w,a,b]=[op a b%n]) (e:Nat->Int) :
  tS2.says [kOrder f0,kWCmp f1,kNew f2 te,X] ⟨fun ys=>ys=(kS2 f op).sem [e 0,e 1,e 2],[]⟩ e:=by
 unfold tS2
 intro a1 _
 have b1:=c_eq a1
 simp only [ev_var,ev_lit] at b1
 refine ⟨fun n=>br2_says f0 f1 f2 te hpre hsem e (by unfold isS;omega) _,fun n=>?_⟩
 intro a2 _
 have b2:=c_eq a2
 simp only [ev_var,ev_lit] at b2
 refine ⟨fun n=>br2_says f0 f1 f2 te hpre hsem e (by unfold isS;omega) _,fun n=>?_⟩
 intro a3 _ a4 _
 have b3:=c_eq a3
 have b4:=c_not a4
 simp only [ev_var,ev_lit] at b3 b4
 refine ⟨fun n=>?_,fun n=>br2_says f0 f1 f2 te hpre hsem e (by unfold isS;omega) _⟩
 show [(0:Int),2]=sem2 op [e 0,e 1,e 2]
 simp only [sem2]
 rw [if_neg (by unfold isS;omega)]
end Go.Sx
