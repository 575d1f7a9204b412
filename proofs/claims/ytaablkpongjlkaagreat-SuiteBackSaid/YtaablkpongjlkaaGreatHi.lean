/- Part Hi of the proof. -/
import Derived.Test.YtaablkpongjlkaaGreatHh
import Derived.Laws.Externs
import Derived.Shelf.Spec.BitsCarry
set_option linter.unusedVariables false
set_option linter.unusedSimpArgs false
namespace Go.Sx
open Go Go.RowKit
abbrev iU:Sh:=.one (.int .u64)
abbrev oU:Oh:=.one (.int .u64)
abbrev iN:Sh:=.agg [.num]
abbrev oN:Oh:=.agg [.num]
abbrev oB:Oh:=.one .bool
abbrev iI:Sh:=.one (.int .i64)
abbrev oI:Oh:=.one (.int .i64)
def kAdd64 (f:FuncId):K:={fn:=f,ext:=true,ins:=[iU,iU,iU],outs:=[oU,oU],pre:=fun | [_,_,c]=>0<=c/\c<=1 | _=>False,sem:=fun | [x,y,c]=>[(x+y+c)%18446744073709551616,(x+y+c)/18446744073709551616] | _=>[] }
def kSub64 (f:FuncId):K:={fn:=f,ext:=true,ins:=[iU,iU,iU],outs:=[oU,oU],pre:=fun | [_,_,c]=>0<=c/\c<=1 | _=>False,sem:=fun | [x,y,c]=>[(x-y-c)%18446744073709551616,if x<y+c then 1 else 0] | _=>[] }
section
variable {P:Program} {f:FuncId} {fn:Func}
theorem in_int {w:World} {k:IntKind} {ss:List Sh} {xs:List Int} {args:List Value} (h:insRel w (.one (.int k)::ss) xs args):∃ x xs' args',xs=x::xs'/\args=.int k x::args'/\has k x/\insRel w ss xs' args':=by
 cases args with
 | nil=>exact h.elim
 | cons v args =>
  obtain ⟨h1,h2,h3⟩:=h
  cases xs with
  | nil=>exact h1.elim
  | cons x xs =>
   have h2':[v]=[Value.int k x]:=h2
   simp only [List.cons.injEq,and_true] at h2'
   exact ⟨x,xs,args,rfl,by rw [h2'],h1.1,h3⟩
theorem in_nil {w:World} {xs:List Int} {args:List Value} (h:insRel w [] xs args):xs=[]/\args=[]:=h
theorem ok_add64 (hf:P.funcs[f]?=some fn) (h1:(fn.name == "runtime.NumGoroutine")=false) (h2:fn.body.isNone=true) (h3:Extern.findNext fn=none) (h4:Extern.find fn=some add64Entry):(kAdd64 f).ok P:=by
 intro w args xs hin hpre
 obtain ⟨x,xs,args,rfl,rfl,hx,hin⟩:=in_int hin
 obtain ⟨y,xs,args,rfl,rfl,hy,hin⟩:=in_int hin
 obtain ⟨c,xs,args,rfl,rfl,hc,hin⟩:=in_int hin
 obtain ⟨rfl,rfl⟩:=in_nil hin
 obtain ⟨c0,c1⟩:0<=c/\c<=1:=hpre
 have hx':=has_u64 hx;have hy':=has_u64 hy
 simp only [kAdd64,if_true]
 refine ⟨[.int .u64 ((x+y+c)%18446744073709551616),.int .u64 ((x+y+c)/18446744073709551616)],?_,?_⟩
 ·rw [run_callFunc_extern hf h1 h2 h3 h4]
  rw [show ([Value.int .u64 x,.int .u64 y,.int .u64 c]:List Value).toArray=#[.int .u64 x,.int .u64 y,.int .u64 c] from rfl,run_add64 x y c hx'.1 hy'.1 c0 c1]
  rfl
 ·refine ⟨⟨?_,trivial⟩,rfl,⟨?_,trivial⟩,rfl,rfl,rfl⟩ <;> simp only [has,lo,hi] <;> omega
theorem ok_sub64 (hf:P.funcs[f]?=some fn) (h1:(fn.name == "runtime.NumGoroutine")=false) (h2:fn.body.isNone=true) (h3:Extern.findNext fn=none) (h4:Extern.find fn=some Proofs.sub64Entry):(kSub64 f).ok P:=by
 intro w args xs hin hpre
 obtain ⟨x,xs,args,rfl,rfl,hx,hin⟩:=in_int hin
 obtain ⟨y,xs,args,rfl,rfl,hy,hin⟩:=in_int hin
 obtain ⟨c,xs,args,rfl,rfl,hc,hin⟩:=in_int hin
 obtain ⟨rfl,rfl⟩:=in_nil hin
 obtain ⟨c0,c1⟩:0<=c/\c<=1:=hpre
 have hx':=has_u64 hx;have hy':=has_u64 hy
 simp only [kSub64,if_true]
 refine ⟨[.int .u64 ((x-y-c)%18446744073709551616),.int .u64 (if x<y+c then 1 else 0)],?_,?_⟩
 ·rw [run_callFunc_extern hf h1 h2 h3 h4]
  obtain ⟨X,rfl⟩:=Int.eq_ofNat_of_zero_le hx'.1
  obtain ⟨Y,rfl⟩:=Int.eq_ofNat_of_zero_le hy'.1
  obtain ⟨k,rfl⟩:=Int.eq_ofNat_of_zero_le c0
  rw [show ([Value.int .u64 X,.int .u64 Y,.int .u64 k]:List Value).toArray=#[.int .u64 X,.int .u64 Y,.int .u64 k] from rfl,Proofs.run_sub64 X Y k (by omega)]
  simp only [Result.andThen,retV]
  have e1:(((X+18446744073709551616-Y-k)%18446744073709551616:Nat):Int)=((X:Int)-Y-k)%18446744073709551616:=by omega
  have e2:((if X<Y+k then 1 else 0:Nat):Int)=if (X:Int)<Y+k then 1 else 0:=by split <;> split <;> omega
  rw [e1,e2]
 ·refine ⟨⟨?_,trivial⟩,rfl,⟨?_,trivial⟩,rfl,rfl,rfl⟩
  ·simp only [has,lo,hi];omega
  ·simp only [has,lo,hi];split <;> omega
end
def bi (p:Prop) [Decidable p]:Int:=if p then 1 else 0
def kWAdd (f:FuncId):K:={fn:=f,ext:=false,ins:=[iN,iN],outs:=[oN,oB],pre:=fun _=>True,sem:=fun | [a,b]=>[(a+b)%N384,(a+b)/N384] | _=>[] }
def kWSub (f:FuncId):K:={fn:=f,ext:=false,ins:=[iN,iN],outs:=[oN,oB],pre:=fun _=>True,sem:=fun | [a,b]=>[(a-b)%N384,bi (a<b)] | _=>[] }
def kWCmp (f:FuncId):K:={fn:=f,ext:=false,ins:=[iN,iN],outs:=[oI],pre:=fun _=>True,sem:=fun | [a,b]=>[if a<b then -1 else if a=b then 0 else 1] | _=>[] }
def kMul64 (f:FuncId):K:={fn:=f,ext:=false,ins:=[iU,iU],outs:=[oU,oU],pre:=fun _=>True,sem:=fun | [a,b]=>[a*b/18446744073709551616,a*b%18446744073709551616] | _=>[] }
abbrev iM:Sh:=.ptr [.num,.int .u64,.num]
def montv (n a b:Int):Int:=a*b*((n+1)/2)^384%n
def mOk (n low:Int):Prop:=n*low%18446744073709551616=18446744073709551615/\3<=n/\n<2^382
def kLess (f:FuncId):K:={fn:=f,ext:=false,ins:=[iM,iN],outs:=[oN],pre:=fun _=>True,sem:=fun | [n,_,_,a]=>[if n<=a then a-n else a] | _=>[] }
def kMont (f:FuncId):K:={fn:=f,ext:=false,ins:=[iM,iN,iN],outs:=[oN],pre:=fun | [n,low,_,a,b]=>mOk n low/\(a<n∨b<n) | _=>False,sem:=fun | [n,_,_,a,b]=>[montv n a b] | _=>[] }
def lim (x:Int) (j:Nat):Int:=x/p64 j%18446744073709551616
theorem ev_lit (e:Nat->Int) (n:Int):A.ev e (.lit n)=n:=rfl
theorem ev_var (e:Nat->Int) (n:Nat):A.ev e (.var n)=e n:=rfl
theorem ev_limb (e:Nat->Int) (n j:Nat):A.ev e (.limb n j)=lim (e n) j:=rfl
theorem lim_lt (x:Int) (j:Nat):0<=lim x j/\lim x j<18446744073709551616:=by unfold lim;omega
theorem lim_0 (x:Int):lim x 0=x%18446744073709551616:=by
 unfold lim
 rw [show p64 0=1 by kernel_rfl,Int.ediv_one]
theorem p64_s (j:Nat):p64 (j+1)=18446744073709551616*p64 j:=by
 have:2^(64*(j+1))=18446744073709551616*2^(64*j):=by rw [Nat.mul_add,Nat.pow_add,Nat.mul_comm]
 simp only [p64,this,Int.natCast_mul];rfl
theorem lim_s (x:Int) (j:Nat):lim x (j+1)=lim (x/18446744073709551616) j:=by
 unfold lim
 rw [p64_s,Int.ediv_ediv_of_nonneg (by omega)]
theorem lim_eq {x:Int} (h:0<=x/\x<N384):x=lim x 0+18446744073709551616*(lim x 1+18446744073709551616*(lim x 2+18446744073709551616*(lim x 3+18446744073709551616*(lim x 4+18446744073709551616*lim x 5)))):=by
 simp only [lim_s,lim_0]
 unfold N384 at h
 omega
theorem joinE6 (a b c d f g:Int):joinE [a,b,c,d,f,g]=a+18446744073709551616*(b+18446744073709551616*(c+18446744073709551616*(d+18446744073709551616*(f+18446744073709551616*g)))):=by
 simp [joinE]
theorem b2i_bi (b:Bool):b2i b=if b=true then 1 else 0:=rfl
theorem c_lt {v a b:Int} (h:v=b2i (cmpE .lss a b)):(v=1/\a<b)∨(v=0/\¬ a<b):=by
 by_cases hc:a<b <;> simp [cmpE,hc,b2i] at h <;> omega
theorem c_le {v a b:Int} (h:v=b2i (cmpE .leq a b)):(v=1/\a<=b)∨(v=0/\¬ a<=b):=by
 by_cases hc:a<=b <;> simp [cmpE,hc,b2i] at h <;> omega
theorem c_gt {v a b:Int} (h:v=b2i (cmpE .gtr a b)):(v=1/\b<a)∨(v=0/\¬ b<a):=by
 by_cases hc:b<a <;> simp [cmpE,hc,b2i] at h <;> omega
theorem c_ge {v a b:Int} (h:v=b2i (cmpE .geq a b)):(v=1/\b<=a)∨(v=0/\¬ b<=a):=by
 by_cases hc:b<=a <;> simp [cmpE,hc,b2i] at h <;> omega
theorem c_eq {v a b:Int} (h:v=b2i (cmpE .eql a b)):(v=1/\a=b)∨(v=0/\¬ a=b):=by
 by_cases hc:a=b <;> simp [cmpE,hc,b2i] at h <;> omega
theorem c_ne {v a b:Int} (h:v=b2i (cmpE .neq a b)):(v=1/\¬ a=b)∨(v=0/\a=b):=by
 by_cases hc:a=b <;> simp [cmpE,hc,b2i] at h <;> omega
set_option maxRecDepth 100000
def tWAdd:Tree:=(.req 0 [.limb 0 0,.limb 1 0,.lit 0]
(.lett 386 (.int .u64) (.app 0 0 [.limb 0 0,.limb 1 0,.lit 0])
(.lett 387 (.int .u64) (.app 0 1 [.limb 0 0,.limb 1 0,.lit 0])
(.req 0 [.limb 0 1,.limb 1 1,.var 387]
(.lett 1106 (.int .u64) (.app 0 0 [.limb 0 1,.limb 1 1,.var 387])
(.lett 1107 (.int .u64) (.app 0 1 [.limb 0 1,.limb 1 1,.var 387])
(.req 0 [.limb 0 2,.limb 1 2,.var 1107]
(.lett 1826 (.int .u64) (.app 0 0 [.limb 0 2,.limb 1 2,.var 1107])
(.lett 1827 (.int .u64) (.app 0 1 [.limb 0 2,.limb 1 2,.var 1107])
(.req 0 [.limb 0 3,.limb 1 3,.var 1827]
(.lett 2546 (.int .u64) (.app 0 0 [.limb 0 3,.limb 1 3,.var 1827])
(.lett 2547 (.int .u64) (.app 0 1 [.limb 0 3,.limb 1 3,.var 1827])
(.req 0 [.limb 0 4,.limb 1 4,.var 2547]
(.lett 3266 (.int .u64) (.app 0 0 [.limb 0 4,.limb 1 4,.var 2547])
(.lett 3267 (.int .u64) (.app 0 1 [.limb 0 4,.limb 1 4,.var 2547])
(.req 0 [.limb 0 5,.limb 1 5,.var 3267]
(.lett 3986 (.int .u64) (.app 0 0 [.limb 0 5,.limb 1 5,.var 3267])
(.lett 3987 (.int .u64) (.app 0 1 [.limb 0 5,.limb 1 5,.var 3267])
(.lett 4322 .bit (.cmp .eql (.var 3987) (.lit 1))
(.lett 4323 .num (.join [.var 386,.var 1106,.var 1826,.var 2546,.var 3266,.var 3986])
(.ret [.var 4323,.var 4322])))))))))))))))))))))
def tWSub:Tree:=(.req 0 [.limb 0 0,.limb 1 0,.lit 0]
(.lett 386 (.int .u64) (.app 0 0 [.limb 0 0,.limb 1 0,.lit 0])
(.lett 387 (.int .u64) (.app 0 1 [.limb 0 0,.limb 1 0,.lit 0])
(.req 0 [.limb 0 1,.limb 1 1,.var 387]
(.lett 1106 (.int .u64) (.app 0 0 [.limb 0 1,.limb 1 1,.var 387])
(.lett 1107 (.int .u64) (.app 0 1 [.limb 0 1,.limb 1 1,.var 387])
(.req 0 [.limb 0 2,.limb 1 2,.var 1107]
(.lett 1826 (.int .u64) (.app 0 0 [.limb 0 2,.limb 1 2,.var 1107])
(.lett 1827 (.int .u64) (.app 0 1 [.limb 0 2,.limb 1 2,.var 1107])
(.req 0 [.limb 0 3,.limb 1 3,.var 1827]
(.lett 2546 (.int .u64) (.app 0 0 [.limb 0 3,.limb 1 3,.var 1827])
(.lett 2547 (.int .u64) (.app 0 1 [.limb 0 3,.limb 1 3,.var 1827])
(.req 0 [.limb 0 4,.limb 1 4,.var 2547]
(.lett 3266 (.int .u64) (.app 0 0 [.limb 0 4,.limb 1 4,.var 2547])
(.lett 3267 (.int .u64) (.app 0 1 [.limb 0 4,.limb 1 4,.var 2547])
(.req 0 [.limb 0 5,.limb 1 5,.var 3267]
(.lett 3986 (.int .u64) (.app 0 0 [.limb 0 5,.limb 1 5,.var 3267])
(.lett 3987 (.int .u64) (.app 0 1 [.limb 0 5,.limb 1 5,.var 3267])
(.lett 4322 .bit (.cmp .eql (.var 3987) (.lit 1))
(.lett 4323 .num (.join [.var 386,.var 1106,.var 1826,.var 2546,.var 3266,.var 3986])
(.ret [.var 4323,.var 4322])))))))))))))))))))))
def tWCmp:Tree:=(.lett 290 .bit (.cmp .lss (.limb 0 5) (.limb 1 5))
(.split 290
(.ret [.lit (-1)])
(.lett 674 .bit (.cmp .gtr (.limb 0 5) (.limb 1 5))
(.split 674
 (.ret [.lit 1])
 (.lett 1058 .bit (.cmp .lss (.limb 0 4) (.limb 1 4))
 (.split 1058
 (.ret [.lit (-1)])
 (.lett 1442 .bit (.cmp .gtr (.limb 0 4) (.limb 1 4))
 (.split 1442
 (.ret [.lit 1])
 (.lett 1826 .bit (.cmp .lss (.limb 0 3) (.limb 1 3))
 (.split 1826
 (.ret [.lit (-1)])
 (.lett 2210 .bit (.cmp .gtr (.limb 0 3) (.limb 1 3))
 (.split 2210
 (.ret [.lit 1])
 (.lett 2594 .bit (.cmp .lss (.limb 0 2) (.limb 1 2))
 (.split 2594
 (.ret [.lit (-1)])
 (.lett 2978 .bit (.cmp .gtr (.limb 0 2) (.limb 1 2))
 (.split 2978
 (.ret [.lit 1])
 (.lett 3362 .bit (.cmp .lss (.limb 0 1) (.limb 1 1))
 (.split 3362
 (.ret [.lit (-1)])
 (.lett 3746 .bit (.cmp .gtr (.limb 0 1) (.limb 1 1))
 (.split 3746
 (.ret [.lit 1])
 (.lett 4130 .bit (.cmp .lss (.limb 0 0) (.limb 1 0))
 (.split 4130
 (.ret [.lit (-1)])
 (.lett 4514 .bit (.cmp .gtr (.limb 0 0) (.limb 1 0))
 (.split 4514
 (.ret [.lit 1])
 (.ret [.lit 0])))))))))))))))))))))))))
theorem addc {s c x y i:Int} (hs:s=(x+y+i)%18446744073709551616) (hc:c=(x+y+i)/18446744073709551616) (hx:0<=x/\x<18446744073709551616) (hy:0<=y/\y<18446744073709551616) (hi:0<=i/\i<=1) :
  s+18446744073709551616*c=x+y+i/\(0<=c/\c<=1):=by omega
theorem subc {s c x y i:Int} (hs:s=(x-y-i)%18446744073709551616) (hc:c=if x<y+i then 1 else 0) (hx:0<=x/\x<18446744073709551616) (hy:0<=y/\y<18446744073709551616) (hi:0<=i/\i<=1) :
  s=x-y-i+18446744073709551616*c/\(0<=c/\c<=1):=by split at hc <;> omega
theorem divmod {x q r m:Int} (h:x=r+m*q) (h0:0<=r) (h1:r<m):x%m=r/\x/m=q:=by
 subst h
 constructor
 ·rw [Int.add_mul_emod_self_left,Int.emod_eq_of_lt h0 h1]
 ·rw [Int.add_mul_ediv_left _ _ (by omega),Int.ediv_eq_zero_of_lt h0 h1,Int.zero_add]
theorem law_wAdd (f1 f2:FuncId) (e:Nat->Int) (hk:kkHas [.num,.num] [e 0,e 1]):tWAdd.says [kAdd64 f1] ⟨fun ys=>ys=(kWAdd f2).sem [e 0,e 1],[]⟩ e:=by
 obtain ⟨ha,hb,_⟩:=hk
 have ea:=lim_eq ha
 have eb:=lim_eq hb
 have a0:=lim_lt (e 0) 0
 have a1:=lim_lt (e 0) 1
 have a2:=lim_lt (e 0) 2
 have a3:=lim_lt (e 0) 3
 have a4:=lim_lt (e 0) 4
 have a5:=lim_lt (e 0) 5
 have b0:=lim_lt (e 1) 0
 have b1:=lim_lt (e 1) 1
 have b2:=lim_lt (e 1) 2
 have b3:=lim_lt (e 1) 3
 have b4:=lim_lt (e 1) 4
 have b5:=lim_lt (e 1) 5
 simp only [tWAdd,kAdd64,kWAdd,Tree.says,List.getElem?_cons_zero,List.map,ev_lit,ev_var,ev_limb,D.ev,List.getD_cons_zero,List.getD_cons_succ,KK.has,joinE6]
 generalize lim (e 0) 0=x0 at *
 generalize lim (e 0) 1=x1 at *
 generalize lim (e 0) 2=x2 at *
 generalize lim (e 0) 3=x3 at *
 generalize lim (e 0) 4=x4 at *
 generalize lim (e 0) 5=x5 at *
 generalize lim (e 1) 0=y0 at *
 generalize lim (e 1) 1=y1 at *
 generalize lim (e 1) 2=y2 at *
 generalize lim (e 1) 3=y3 at *
 generalize lim (e 1) 4=y4 at *
 generalize lim (e 1) 5=y5 at *
 refine ⟨by omega,fun s0 _ t0 _=>?_⟩
 obtain ⟨p0,q0⟩:=addc s0 t0 a0 b0 (by omega)
 refine ⟨by omega,fun s1 _ t1 _=>?_⟩
 obtain ⟨p1,q1⟩:=addc s1 t1 a1 b1 (by omega)
 refine ⟨by omega,fun s2 _ t2 _=>?_⟩
 obtain ⟨p2,q2⟩:=addc s2 t2 a2 b2 (by omega)
 refine ⟨by omega,fun s3 _ t3 _=>?_⟩
 obtain ⟨p3,q3⟩:=addc s3 t3 a3 b3 (by omega)
 refine ⟨by omega,fun s4 _ t4 _=>?_⟩
 obtain ⟨p4,q4⟩:=addc s4 t4 a4 b4 (by omega)
 refine ⟨by omega,fun s5 _ t5 _=>?_⟩
 obtain ⟨p5,q5⟩:=addc s5 t5 a5 b5 (by omega)
 intro h1 _ h2 h3
 obtain ⟨r1,r2⟩:=divmod (x:=e 0+e 1) (q:=e 3987) (r:=e 4323) (m:=N384) (by unfold N384;omega) h3.1 h3.2
 rw [r1,r2,h1]
 congr 2
 simp only [b2i,cmpE,beq_iff_eq]
 split <;> omega
theorem law_wSub (f1 f2:FuncId) (e:Nat->Int) (hk:kkHas [.num,.num] [e 0,e 1]):tWSub.says [kSub64 f1] ⟨fun ys=>ys=(kWSub f2).sem [e 0,e 1],[]⟩ e:=by
 obtain ⟨ha,hb,_⟩:=hk
 have ea:=lim_eq ha
 have eb:=lim_eq hb
 have a0:=lim_lt (e 0) 0
 have a1:=lim_lt (e 0) 1
 have a2:=lim_lt (e 0) 2
 have a3:=lim_lt (e 0) 3
 have a4:=lim_lt (e 0) 4
 have a5:=lim_lt (e 0) 5
 have b0:=lim_lt (e 1) 0
 have b1:=lim_lt (e 1) 1
 have b2:=lim_lt (e 1) 2
 have b3:=lim_lt (e 1) 3
 have b4:=lim_lt (e 1) 4
 have b5:=lim_lt (e 1) 5
 simp only [tWSub,kSub64,kWSub,Tree.says,List.getElem?_cons_zero,List.map,ev_lit,ev_var,ev_limb,D.ev,List.getD_cons_zero,List.getD_cons_succ,KK.has,joinE6]
 generalize lim (e 0) 0=x0 at *
 generalize lim (e 0) 1=x1 at *
 generalize lim (e 0) 2=x2 at *
 generalize lim (e 0) 3=x3 at *
 generalize lim (e 0) 4=x4 at *
 generalize lim (e 0) 5=x5 at *
 generalize lim (e 1) 0=y0 at *
 generalize lim (e 1) 1=y1 at *
 generalize lim (e 1) 2=y2 at *
 generalize lim (e 1) 3=y3 at *
 generalize lim (e 1) 4=y4 at *
 generalize lim (e 1) 5=y5 at *
 refine ⟨by omega,fun s0 _ t0 _=>?_⟩
 obtain ⟨p0,q0⟩:=subc s0 t0 a0 b0 (by omega)
 refine ⟨by omega,fun s1 _ t1 _=>?_⟩
 obtain ⟨p1,q1⟩:=subc s1 t1 a1 b1 (by omega)
 refine ⟨by omega,fun s2 _ t2 _=>?_⟩
 obtain ⟨p2,q2⟩:=subc s2 t2 a2 b2 (by omega)
 refine ⟨by omega,fun s3 _ t3 _=>?_⟩
 obtain ⟨p3,q3⟩:=subc s3 t3 a3 b3 (by omega)
 refine ⟨by omega,fun s4 _ t4 _=>?_⟩
 obtain ⟨p4,q4⟩:=subc s4 t4 a4 b4 (by omega)
 refine ⟨by omega,fun s5 _ t5 _=>?_⟩
 obtain ⟨p5,q5⟩:=subc s5 t5 a5 b5 (by omega)
 intro h1 _ h2 h3
 obtain ⟨r1,r2⟩:=divmod (x:=e 0-e 1) (q:=- e 3987) (r:=e 4323) (m:=N384) (by unfold N384;omega) h3.1 h3.2
 rw [r1,h1]
 congr 2
 simp only [b2i,cmpE,beq_iff_eq,bi]
 unfold N384 at h3
 split <;> split <;> omega
theorem law_wCmp (f2:FuncId) (e:Nat->Int) (hk:kkHas [.num,.num] [e 0,e 1]):tWCmp.says [] ⟨fun ys=>ys=(kWCmp f2).sem [e 0,e 1],[]⟩ e:=by
 obtain ⟨ha,hb,_⟩:=hk
 have ea:=lim_eq ha
 have eb:=lim_eq hb
 have a0:=lim_lt (e 0) 0
 have a1:=lim_lt (e 0) 1
 have a2:=lim_lt (e 0) 2
 have a3:=lim_lt (e 0) 3
 have a4:=lim_lt (e 0) 4
 have a5:=lim_lt (e 0) 5
 have b0:=lim_lt (e 1) 0
 have b1:=lim_lt (e 1) 1
 have b2:=lim_lt (e 1) 2
 have b3:=lim_lt (e 1) 3
 have b4:=lim_lt (e 1) 4
 have b5:=lim_lt (e 1) 5
 simp only [tWCmp,kWCmp,Tree.says,List.getElem?_cons_zero,List.map,ev_lit,ev_var,ev_limb,D.ev,List.getD_cons_zero,List.getD_cons_succ,KK.has,joinE6]
 generalize lim (e 0) 0=x0 at *
 generalize lim (e 0) 1=x1 at *
 generalize lim (e 0) 2=x2 at *
 generalize lim (e 0) 3=x3 at *
 generalize lim (e 0) 4=x4 at *
 generalize lim (e 0) 5=x5 at *
 generalize lim (e 1) 0=y0 at *
 generalize lim (e 1) 1=y1 at *
 generalize lim (e 1) 2=y2 at *
 generalize lim (e 1) 3=y3 at *
 generalize lim (e 1) 4=y4 at *
 generalize lim (e 1) 5=y5 at *
 intro h _
 have k0a:=c_lt h
 refine ⟨fun n=>by rw [if_pos (by omega)],fun n=>?_⟩
 clear h
 intro h _
 have k0b:=c_gt h
 refine ⟨fun m=>by rw [if_neg (by omega),if_neg (by omega)],fun m=>?_⟩
 have z0:x5=y5:=by omega
 clear h k0a k0b n m
 intro h _
 have k1a:=c_lt h
 refine ⟨fun n=>by rw [if_pos (by omega)],fun n=>?_⟩
 clear h
 intro h _
 have k1b:=c_gt h
 refine ⟨fun m=>by rw [if_neg (by omega),if_neg (by omega)],fun m=>?_⟩
 have z1:x4=y4:=by omega
 clear h k1a k1b n m
 intro h _
 have k2a:=c_lt h
 refine ⟨fun n=>by rw [if_pos (by omega)],fun n=>?_⟩
 clear h
 intro h _
 have k2b:=c_gt h
 refine ⟨fun m=>by rw [if_neg (by omega),if_neg (by omega)],fun m=>?_⟩
 have z2:x3=y3:=by omega
 clear h k2a k2b n m
 intro h _
 have k3a:=c_lt h
 refine ⟨fun n=>by rw [if_pos (by omega)],fun n=>?_⟩
 clear h
 intro h _
 have k3b:=c_gt h
 refine ⟨fun m=>by rw [if_neg (by omega),if_neg (by omega)],fun m=>?_⟩
 have z3:x2=y2:=by omega
 clear h k3a k3b n m
 intro h _
 have k4a:=c_lt h
 refine ⟨fun n=>by rw [if_pos (by omega)],fun n=>?_⟩
 clear h
 intro h _
 have k4b:=c_gt h
 refine ⟨fun m=>by rw [if_neg (by omega),if_neg (by omega)],fun m=>?_⟩
 have z4:x1=y1:=by omega
 clear h k4a k4b n m
 intro h _
 have k5a:=c_lt h
 refine ⟨fun n=>by rw [if_pos (by omega)],fun n=>?_⟩
 clear h
 intro h _
 have k5b:=c_gt h
 refine ⟨fun m=>by rw [if_neg (by omega),if_neg (by omega)],fun m=>?_⟩
 have z5:x0=y0:=by omega
 clear h k5a k5b n m
 rw [if_neg (by omega),if_pos (by omega)]
set_option maxRecDepth 100000
def U (v:Int):Prop:=0<=v/\v<18446744073709551616
theorem mul_bd {x y:Int} (hx:U x) (hy:U y):0<=x*y/\x*y<=18446744073709551615*18446744073709551615:=by
 unfold U at hx hy
 exact ⟨Int.mul_nonneg hx.1 hy.1,Int.mul_le_mul (by omega) (by omega) hy.1 (by omega)⟩
theorem mac_arith {p t c h l l1 c1 h1 l2 c2 h2:Int} (hp:0<=p/\p<=18446744073709551615*18446744073709551615) (ht:U t) (hc:U c)
  (e1:h=p/18446744073709551616) (e2:l=p%18446744073709551616) (e3:l1=(l+t+0)%18446744073709551616) (e4:c1=(l+t+0)/18446744073709551616) (e5:h1=wr .u64 (h+c1))
  (e6:l2=(l1+c+0)%18446744073709551616) (e7:c2=(l1+c+0)/18446744073709551616) (e8:h2=wr .u64 (h1+c2)):U l2/\U h2/\l2+18446744073709551616*h2=p+t+c:=by
 unfold U at *
 simp only [wr] at e5 e8
 omega
def u6:KK:=.int .u64
def mac (im ia n1 n2 n3:Nat) (x y t c:A) (k:Tree):Tree :=
 .req im [x,y] (.lett n1 (.int .u64) (.app im 0 [x,y]) (.lett (n1+1) (.int .u64) (.app im 1 [x,y])
 (.req ia [.var (n1+1),t,.lit 0] (.lett n2 (.int .u64) (.app ia 0 [.var (n1+1),t,.lit 0]) (.lett (n2+1) (.int .u64) (.app ia 1 [.var (n1+1),t,.lit 0])
 (.lett (n2+2) (.int .u64) (.bin .add .u64 (.var n1) (.var (n2+1)))
 (.req ia [.var n2,c,.lit 0] (.lett n3 (.int .u64) (.app ia 0 [.var n2,c,.lit 0]) (.lett (n3+1) (.int .u64) (.app ia 1 [.var n2,c,.lit 0])
 (.lett (n3+2) (.int .u64) (.bin .add .u64 (.var (n2+2)) (.var (n3+1))) k))))))))))
section
variable {T:List K} {f g:FuncId} {im ia:Nat} {G:Gl} {e:Nat->Int}
theorem mac_says {n1 n2 n3:Nat} {x y t c:A} {k:Tree} (hm:T[im]?=some (kMul64 f)) (ha:T[ia]?=some (kAdd64 g)) (bx:U (x.ev e)) (by_:U (y.ev e)) (bt:U (t.ev e)) (bc:U (c.ev e))
  (hk:U (e n3)->U (e (n3+2))->e n3+18446744073709551616*e (n3+2)=x.ev e*y.ev e+t.ev e+c.ev e->k.says T G e):(mac im ia n1 n2 n3 x y t c k).says T G e:=by
 simp only [mac,Tree.says,hm,ha,D.ev,kMul64,kAdd64,List.map,List.getD_cons_zero,List.getD_cons_succ,ev_var,ev_lit,binE]
 refine ⟨trivial,fun e1 _ e2 _=>⟨by omega,fun e3 _ e4 _ e5 _=>⟨by omega,fun e6 _ e7 _ e8 _=>?_⟩⟩⟩
 obtain ⟨r1,r2,r3⟩:=mac_arith (mul_bd bx by_) bt bc e1 e2 e3 e4 e5 e6 e7 e8
 exact hk r1 r2 r3
def macsT (im ia:Nat) (x:A):List (A×A×Nat×Nat×Nat)->A->(A->Tree)->Tree
 | [],c,k=>k c
 | (y,t,n1,n2,n3)::r,c,k=>mac im ia n1 n2 n3 x y t c (macsT im ia x r (.var (n3+2)) k)
def outC:List (A×A×Nat×Nat×Nat)->A->A
 | [],c=>c
 | (_,_,_,_,n3)::r,_=>outC r (.var (n3+2))
def jo (e:Nat->Int):List A->Int
 | []=>0
 | a::r=>a.ev e+18446744073709551616*jo e r
def AllU (e:Nat->Int):List A->Prop
 | []=>True
 | a::r=>U (a.ev e)/\AllU e r
def pw64:Nat->Int
 | 0=>1
 | n+1=>18446744073709551616*pw64 n
theorem macsT_says (hm:T[im]?=some (kMul64 f)) (ha:T[ia]?=some (kAdd64 g)) {x:A} (bx:U (x.ev e)):∀ (l:List (A×A×Nat×Nat×Nat)) (c:A) (k:A->Tree),
  AllU e (l.map (·.1))->AllU e (l.map (·.2.1))->U (c.ev e) ->
  (AllU e (l.map fun q=>A.var q.2.2.2.2)->U ((outC l c).ev e)->jo e (l.map fun q=>A.var q.2.2.2.2)+pw64 l.length*(outC l c).ev e=x.ev e*jo e (l.map (·.1))+jo e (l.map (·.2.1))+c.ev e->(k (outC l c)).says T G e) ->
  (macsT im ia x l c k).says T G e
 | [],c,k,_,_,hc,hk=>by
  refine hk trivial hc ?_
  show (0:Int)+1*c.ev e=x.ev e*0+0+c.ev e
  omega
 | (y,t,n1,n2,n3)::r,c,k,hy,ht,hc,hk=>by
  refine mac_says hm ha bx hy.1 ht.1 hc fun h1 h2 h3=>?_
  refine macsT_says hm ha bx r (.var (n3+2)) k hy.2 ht.2 h2 fun g1 g2 g3=>?_
  refine hk ⟨h1,g1⟩ g2 ?_
  simp only [outC,List.map_cons,jo,List.length_cons,pw64,ev_var] at *
  generalize jo e (r.map (·.1))=Y at *
  generalize jo e (r.map (·.2.1))=S at *
  generalize (outC r (A.var (n3+2))).ev e=o at *
  generalize pw64 r.length=q at *
  rw [Int.mul_assoc,Int.mul_add (A.ev e x),show A.ev e x*(18446744073709551616*Y)=18446744073709551616*(A.ev e x*Y) by rw [Int.mul_left_comm]]
  generalize A.ev e x*Y=z at *
  generalize A.ev e x*A.ev e y=z' at *
  generalize q*o=z'' at *
  omega
end
def tMul64:Tree:=(.lett 2 (.int .u64) (.bin .and .u64 (.var 0) (.lit 4294967295))
(.lett 3 (.int .u64) (.bin .shr .u64 (.var 0) (.lit 32))
(.lett 4 (.int .u64) (.bin .and .u64 (.var 1) (.lit 4294967295))
(.lett 5 (.int .u64) (.bin .shr .u64 (.var 1) (.lit 32))
(.lett 6 (.int .u64) (.bin .mul .u64 (.var 2) (.var 4))
(.lett 7 (.int .u64) (.bin .mul .u64 (.var 3) (.var 4))
(.lett 8 (.int .u64) (.bin .shr .u64 (.var 6) (.lit 32))
(.lett 9 (.int .u64) (.bin .add .u64 (.var 7) (.var 8))
(.lett 10 (.int .u64) (.bin .and .u64 (.var 9) (.lit 4294967295))
(.lett 11 (.int .u64) (.bin .shr .u64 (.var 9) (.lit 32))
(.lett 12 (.int .u64) (.bin .mul .u64 (.var 2) (.var 5))
(.lett 13 (.int .u64) (.bin .add .u64 (.var 10) (.var 12))
(.lett 14 (.int .u64) (.bin .mul .u64 (.var 3) (.var 5))
(.lett 15 (.int .u64) (.bin .add .u64 (.var 14) (.var 11))
(.lett 16 (.int .u64) (.bin .shr .u64 (.var 13) (.lit 32))
(.lett 17 (.int .u64) (.bin .add .u64 (.var 15) (.var 16))
(.lett 18 (.int .u64) (.bin .mul .u64 (.var 0) (.var 1))
(.ret [.var 17,.var 18]))))))))))))))))))
theorem and_mask (x:Int) (k:Nat) (hk:k<=64) (h:U x):binE .and .u64 x ((2^k:Nat)-1:Int)=x%(2^k:Nat):=by
 obtain ⟨n,hn⟩:=Int.eq_ofNat_of_zero_le h.1
 unfold U at h
 have hp:(2^k:Nat)<=2^64:=Nat.pow_le_pow_right (by omega) hk
 have hp0:0<2^k:=Nat.two_pow_pos k
 have h2:((2^k:Nat)-1:Int)=((2^k-1:Nat):Int):=by omega
 have hlt:n<2^64:=by omega
 show wr .u64 ((BitVec.ofInt 64 x &&& BitVec.ofInt 64 ((2^k:Nat)-1:Int)).toNat:Int)=_
 rw [hn,h2,BitVec.ofInt_natCast,BitVec.ofInt_natCast,BitVec.toNat_and,BitVec.toNat_ofNat,BitVec.toNat_ofNat,Nat.mod_eq_of_lt hlt,Nat.mod_eq_of_lt (by omega),Nat.and_two_pow_sub_one_eq_mod]
 simp only [wr]
 have:n%2^k<2^k:=Nat.mod_lt _ hp0
 rw [Int.emod_eq_of_lt (by omega) (by omega)]
 simp
theorem and_32 {v x:Int} (h:v=binE .and .u64 x 4294967295) (hx:U x):v=x%4294967296:=by
 rw [h];exact and_mask x 32 (by omega) hx
theorem shr_e {v x:Int} {k:IntKind} (h:v=binE .shr k x 32) (hk:32<=k.bits:=by decide):v=x/4294967296:=by
 rw [h];simp only [binE]
 have:min (32:Int).toNat k.bits=32:=by show min 32 k.bits=32;omega
 rw [this]
 exact Int.fdiv_eq_ediv_of_nonneg _ (by decide)
theorem mul64_arith {x y x0 x1 y0 y1 w0 v7 t8 t w1 w2 v12 w1' v14 v15 v16 hi:Int} (hx:U x) (hy:U y)
  (a0:x0=x%4294967296) (a1:x1=x/4294967296) (b0:y0=y%4294967296) (b1:y1=y/4294967296)
  (c0:w0=wr .u64 (x0*y0)) (c1:v7=wr .u64 (x1*y0)) (c2:t8=w0/4294967296) (c3:t=wr .u64 (v7+t8)) (c4:w1=t%4294967296) (c5:w2=t/4294967296)
  (c6:v12=wr .u64 (x0*y1)) (c7:w1'=wr .u64 (w1+v12)) (c8:v14=wr .u64 (x1*y1)) (c9:v15=wr .u64 (v14+w2)) (c10:v16=w1'/4294967296) (c11:hi=wr .u64 (v15+v16)) :
  hi=x*y/18446744073709551616:=by
 unfold U at hx hy
 have hx2:x=x0+4294967296*x1:=by omega
 have hy2:y=y0+4294967296*y1:=by omega
 have ex:x*y=x0*y0+4294967296*(x1*y0)+4294967296*(x0*y1)+18446744073709551616*(x1*y1):=by
  rw [hx2,hy2];grind
 have bd:∀ {a b:Int},0<=a/\a<=4294967295->0<=b/\b<=4294967295->0<=a*b/\a*b<=4294967295*4294967295:=fun ha hb =>
  ⟨Int.mul_nonneg ha.1 hb.1,Int.mul_le_mul ha.2 hb.2 hb.1 (by omega)⟩
 have p00:=bd (a:=x0) (b:=y0) (by omega) (by omega)
 have p10:=bd (a:=x1) (b:=y0) (by omega) (by omega)
 have p01:=bd (a:=x0) (b:=y1) (by omega) (by omega)
 have p11:=bd (a:=x1) (b:=y1) (by omega) (by omega)
 rw [ex]
 clear ex bd hx2 hy2
 simp only [wr] at *
 generalize x0*y0=A at *
 generalize x1*y0=B at *
 generalize x0*y1=C at *
 generalize x1*y1=E at *
 clear a0 a1 b0 b1 hx hy
 omega
theorem law_mul64 (f:FuncId) (e:Nat->Int) (hk:kkHas [.int .u64,.int .u64] [e 0,e 1]):tMul64.says [] ⟨fun ys=>ys=(kMul64 f).sem [e 0,e 1],[]⟩ e:=by
 obtain ⟨h0,h1,_⟩:=hk
 have hx:U (e 0):=has_u64 h0
 have hy:U (e 1):=has_u64 h1
 simp only [tMul64,kMul64,Tree.says,List.map,ev_lit,ev_var,D.ev,KK.has]
 intro e2 _ e3 _ e4 _ e5 _ e6 _ e7 _ e8 k8 e9 k9 e10 _ e11 _ e12 _ e13 k13 e14 _ e15 _ e16 _ e17 _ e18 _
 have k6:U (e 6):=by rw [e6];exact has_u64 (wr_has _ _)
 have r:=mul64_arith hx hy (and_32 e2 hx) (shr_e e3) (and_32 e4 hy) (shr_e e5) e6 e7 (shr_e e8) e9 (and_32 e10 (has_u64 k9)) (shr_e e11) e12 e13 e14 e15 (shr_e e16) e17
 rw [r,e18]
 rfl
set_option maxRecDepth 100000
def roundT (im ia b:Nat) (x low n0 y0 y1 y2 y3 y4 y5 n1 n2 n3 n4 n5 t0 t1 t2 t3 t4 t5 t6:A) (k:A->A->A->A->A->A->A->Tree):Tree :=
 macsT im ia x [(y0,t0,b,b+288,b+291),(y1,t1,b+582,b+870,b+873),(y2,t2,b+1164,b+1452,b+1455),(y3,t3,b+1746,b+2034,b+2037),(y4,t4,b+2328,b+2616,b+2619),(y5,t5,b+2910,b+3198,b+3201)] (.lit 0) fun c =>
 .req ia [t6,c,.lit 0] (.lett (b+3204) (.int .u64) (.app ia 0 [t6,c,.lit 0]) (.lett (b+3205) (.int .u64) (.app ia 1 [t6,c,.lit 0])
 (.lett (b+3494) (.int .u64) (.bin .mul .u64 (.var (b+291)) low)
 (.req im [.var (b+3494),n0] (.lett (b+3590) (.int .u64) (.app im 0 [.var (b+3494),n0]) (.lett (b+3591) (.int .u64) (.app im 1 [.var (b+3494),n0])
 (.req ia [.var (b+3591),.var (b+291),.lit 0] (.lett (b+3592) (.int .u64) (.app ia 0 [.var (b+3591),.var (b+291),.lit 0]) (.lett (b+3593) (.int .u64) (.app ia 1 [.var (b+3591),.var (b+291),.lit 0])
 (.lett (b+3594) (.int .u64) (.bin .add .u64 (.var (b+3590)) (.var (b+3593)))
 (macsT im ia (.var (b+3494)) [(n1,.var (b+873),b+3595,b+3597,b+3600),(n2,.var (b+1455),b+3603,b+3605,b+3608),(n3,.var (b+2037),b+3611,b+3613,b+3616),(n4,.var (b+2619),b+3619,b+3621,b+3624),(n5,.var (b+3201),b+3627,b+3629,b+3632)] (.var (b+3594)) fun c' =>
 .req ia [.var (b+3204),c',.lit 0] (.lett (b+3635) (.int .u64) (.app ia 0 [.var (b+3204),c',.lit 0]) (.lett (b+3636) (.int .u64) (.app ia 1 [.var (b+3204),c',.lit 0])
 (.lett (b+3637) (.int .u64) (.bin .add .u64 (.var (b+3205)) (.var (b+3636)))
 (k (.var (b+3600)) (.var (b+3608)) (.var (b+3616)) (.var (b+3624)) (.var (b+3632)) (.var (b+3635)) (.var (b+3637)))))))))))))))))
theorem q_zero {q l0 low n0:Int} (hq:q=wr .u64 (l0*low)) (hl:n0*low%18446744073709551616=18446744073709551615):(q*n0+l0)%18446744073709551616=0:=by
 simp only [wr] at hq
 have h1:∃ z,l0*low=q+18446744073709551616*z:=⟨l0*low/18446744073709551616,by omega⟩
 have h2:∃ z,n0*low=18446744073709551615+18446744073709551616*z:=⟨n0*low/18446744073709551616,by omega⟩
 obtain ⟨z,h1⟩:=h1
 obtain ⟨y,h2⟩:=h2
 have:q*n0+l0=18446744073709551616*(l0*(y+1)-z*n0):=by grind
 rw [this]
 exact Int.mul_emod_right _ _
theorem round_arith {xB qn0 qJ V jl l0 j5 t6 c s6 c7 h l' cc ca j2 c' t5' c'' t6' jt:Int}
  (hqz:(qn0+l0)%18446744073709551616=0) (hqn:0<=qn0/\qn0<=18446744073709551615*18446744073709551615)
  (hV:V=jt+N384*t6) (u6:U t6) (hjl:jl=l0+18446744073709551616*j5) (ul:U l0) (uc:U c) (uc':U c')
  (S1:jl+N384*c=xB+jt+0) (a1:s6=(t6+c+0)%18446744073709551616) (a2:c7=(t6+c+0)/18446744073709551616)
  (m1:h=qn0/18446744073709551616) (m2:l'=qn0%18446744073709551616) (m4:cc=(l'+l0+0)/18446744073709551616) (m5:ca=wr .u64 (h+cc))
  (S2:j2+2135987035920910082395021706169552114602704522356652769947041607822219725780640550022962086936576*c'=qJ+j5+ca)
  (b1:t5'=(s6+c'+0)%18446744073709551616) (b2:c''=(s6+c'+0)/18446744073709551616) (b3:t6'=wr .u64 (c7+c'')) :
  18446744073709551616*(j2+2135987035920910082395021706169552114602704522356652769947041607822219725780640550022962086936576*t5'+N384*t6')=V+xB+(qn0+18446744073709551616*qJ)/\U t5'/\0<=t6'/\t6'<=2:=by
 unfold U N384 at *
 simp only [wr] at *
 omega
section
variable {T:List K} {f g:FuncId} {im ia b:Nat} {G:Gl} {e:Nat->Int}
def wd (a b c d f g:Int):Int:=a+18446744073709551616*(b+18446744073709551616*(c+18446744073709551616*(d+18446744073709551616*(f+18446744073709551616*g))))
theorem round_says {x low n0 y0 y1 y2 y3 y4 y5 n1 n2 n3 n4 n5 t0 t1 t2 t3 t4 t5 t6:A} {k:A->A->A->A->A->A->A->Tree} {B N V:Int} (hm:T[im]?=some (kMul64 f)) (ha:T[ia]?=some (kAdd64 g)) (bx:U (x.ev e))
  (hy:AllU e [y0,y1,y2,y3,y4,y5]) (hn:AllU e [n0,n1,n2,n3,n4,n5]) (ht:AllU e [t0,t1,t2,t3,t4,t5,t6])
  (hB:B=jo e [y0,y1,y2,y3,y4,y5]) (hN:N=jo e [n0,n1,n2,n3,n4,n5]) (hV:V=jo e [t0,t1,t2,t3,t4,t5]+N384*t6.ev e) (hVB:V<B+N)
  (hl:n0.ev e*low.ev e%18446744073709551616=18446744073709551615)
  (hk:∀ V' q,AllU e [.var (b+3600),.var (b+3608),.var (b+3616),.var (b+3624),.var (b+3632),.var (b+3635),.var (b+3637)] ->
   V'=jo e [.var (b+3600),.var (b+3608),.var (b+3616),.var (b+3624),.var (b+3632),.var (b+3635)]+N384*e (b+3637)->V'<B+N->0<=V'->0<=q/\q<18446744073709551616->18446744073709551616*V'=V+x.ev e*B+q*N ->
   (k (.var (b+3600)) (.var (b+3608)) (.var (b+3616)) (.var (b+3624)) (.var (b+3632)) (.var (b+3635)) (.var (b+3637))).says T G e) :
  (roundT im ia b x low n0 y0 y1 y2 y3 y4 y5 n1 n2 n3 n4 n5 t0 t1 t2 t3 t4 t5 t6 k).says T G e:=by
 unfold roundT
 obtain ⟨ht0,ht1,ht2,ht3,ht4,ht5,ht6,_⟩:=ht
 obtain ⟨hn0,hn1,hn2,hn3,hn4,hn5,_⟩:=hn
 refine macsT_says hm ha bx _ _ _ hy ⟨ht0,ht1,ht2,ht3,ht4,ht5,trivial⟩ (by show U 0;unfold U;omega) fun g1 g2 g3=>?_
 simp only [List.map,outC,List.length_cons,List.length_nil,AllU,ev_var] at g1 g2 g3
 obtain ⟨l0,l1,l2,l3,l4,l5,_⟩:=g1
 simp only [outC]
 have ht6':=ht6
 refine ⟨by simp only [ha,kAdd64,List.map,ev_lit];omega,fun a1 _ a2 _ a3 k3=>⟨by simp only [hm,kMul64],fun a4 _ a5 _=>⟨by simp only [ha,kAdd64,List.map,ev_lit];omega,fun _ _ a7 _ a8 k8=>?_⟩⟩⟩
 have k3':U (e (b+3494)):=has_u64 k3
 have k8':U (e (b+3594)):=has_u64 k8
 refine macsT_says hm ha (by exact k3') _ _ _ ⟨hn1,hn2,hn3,hn4,hn5,trivial⟩ ⟨l1,l2,l3,l4,l5,trivial⟩ (by exact k8') fun p1 p2 p3=>?_
 simp only [List.map,outC,List.length_cons,List.length_nil,AllU,ev_var] at p1 p2 p3
 obtain ⟨r1,r2,r3,r4,r5,_⟩:=p1
 simp only [outC]
 refine ⟨by simp only [ha,kAdd64,List.map,ev_lit];omega,fun b1 _ b2 _ b3 _=>?_⟩
 simp only [D.ev,ha,hm,kAdd64,kMul64,List.map,List.getD_cons_zero,List.getD_cons_succ,ev_var,ev_lit,binE] at a1 a2 a3 a4 a5 a7 a8 b1 b2 b3
 have hz:=q_zero a3 hl
 have e6:pw64 (0+1+1+1+1+1+1)=N384:=by decide +kernel
 have e5:pw64 (0+1+1+1+1+1)=2135987035920910082395021706169552114602704522356652769947041607822219725780640550022962086936576:=by decide +kernel
 rw [e6,show (A.lit 0).ev e=0 from rfl] at g3
 rw [e5] at p3
 have hqn:=mul_bd k3' hn0
 obtain ⟨s1,s2,s3,s4⟩:=round_arith hz hqn hV ht6 (by simp only [jo];rfl) l0 g2 p2 g3 a1 a2 a4 a5 a7 a8 p3 b1 b2 b3
 have hB0:0<=B:=by
  obtain ⟨z0,z1,z2,z3,z4,z5,_⟩:=hy
  unfold U at z0 z1 z2 z3 z4 z5
  rw [hB];simp only [jo];omega
 have hN0:0<=N:=by
  unfold U at hn0 hn1 hn2 hn3 hn4 hn5
  rw [hN];simp only [jo];omega
 have hqN:e (b+3494)*N=e (b+3494)*n0.ev e+18446744073709551616*(e (b+3494)*jo e [n1,n2,n3,n4,n5]):=by
  rw [hN,show jo e [n0,n1,n2,n3,n4,n5]=n0.ev e+18446744073709551616*jo e [n1,n2,n3,n4,n5] from rfl,Int.mul_add,Int.mul_left_comm]
 rw [<- hqN] at s1
 have hxB:A.ev e x*jo e [y0,y1,y2,y3,y4,y5]=A.ev e x*B:=by rw [hB]
 simp only [jo] at hxB
 have s1':18446744073709551616*(jo e [.var (b+3600),.var (b+3608),.var (b+3616),.var (b+3624),.var (b+3632),.var (b+3635)]+N384*e (b+3637))=V+A.ev e x*B+e (b+3494)*N:=by
  rw [<- hB] at s1
  rw [<- s1]
  simp only [jo,ev_var];omega
 have m1:A.ev e x*B<=18446744073709551615*B:=Int.mul_le_mul_of_nonneg_right (by have:=bx.2;omega) hB0
 have m2:e (b+3494)*N<=18446744073709551615*N:=Int.mul_le_mul_of_nonneg_right (by have:=k3'.2;omega) hN0
 refine hk _ _ ⟨r1,r2,r3,r4,r5,s2,by exact ⟨s3,by show e (b+3637)<_;omega⟩,trivial⟩ rfl ?_ ?_ k3' s1'
 ·generalize jo e [.var (b+3600),.var (b+3608),.var (b+3616),.var (b+3624),.var (b+3632),.var (b+3635)]+N384*e (b+3637)=V' at *
  omega
 ·unfold U at r1 r2 r3 r4 r5 s2
  have s3':0<=e (b+3637):=s3
  unfold N384
  simp only [jo,ev_var];omega
end
set_option maxRecDepth 100000
theorem md {x y n:Int} (z:Int) (h:x=y+n*z):x%n=y%n:=by rw [h];exact Int.add_mul_emod_self_left ..
theorem dm {x y n:Int} (h:x%n=y%n):∃ z,x=y+n*z:=⟨x/n-y/n,by
 have h1:=Int.emod_add_mul_ediv x n
 have h2:=Int.emod_add_mul_ediv y n
 rw [Int.mul_sub];omega⟩
theorem md_of {x n:Int}:∃ z,x%n=x+n*z:=⟨-(x/n),by have h1:=Int.emod_add_mul_ediv x n;rw [Int.mul_neg];omega⟩
theorem md_lt {x n:Int} (h:0<n):0<=x%n/\x%n<n:=⟨Int.emod_nonneg _ (by omega),Int.emod_lt_of_pos _ h⟩
theorem md_eq {x n r:Int} (z:Int) (h:x=r+n*z) (h0:0<=r) (h1:r<n):x%n=r:=by
 rw [md z h];exact Int.emod_eq_of_lt h0 h1
theorem one_pow_md (n u:Int):∀ k:Nat,∃ z,(1+n*u)^k=1+n*z
 | 0=>⟨0,by simp⟩
 | k+1=>by
  obtain ⟨z,hz⟩:=one_pow_md n u k
  exact ⟨z+u+n*z*u,by rw [Int.pow_succ,hz];grind⟩
def half2 (n:Int):Int:=(n+1)/2
theorem half_R {n:Int} (h:n%2=1):∃ z,N384*half2 n^384=1+n*z:=by
 obtain ⟨z,hz⟩:=one_pow_md n 1 384
 have h2:1+n*1=2*half2 n:=by unfold half2;omega
 rw [h2,Int.mul_pow,show (2:Int)^384=N384 by decide +kernel] at hz
 exact ⟨z,hz⟩
theorem montv_of {n a b v q:Int} (h:n%2=1) (hv:N384*v=a*b+q*n):v%n=montv n a b:=by
 obtain ⟨z,hz⟩:=half_R h
 have e:v=a*b*half2 n^384+n*(q*half2 n^384-v*z):=by
  have h1:N384*v*half2 n^384=v*(N384*half2 n^384):=by rw [Int.mul_comm N384 v,Int.mul_assoc]
  rw [hz,hv] at h1
  generalize half2 n^384=I at *
  grind
 exact md _ e
theorem odd_of {n low:Int} (h:n*low%18446744073709551616=18446744073709551615):n%2=1:=by
 rcases Int.emod_two_eq n with h2 | h2
 ·exfalso
  have:n=2*(n/2):=by omega
  rw [this,Int.mul_assoc] at h
  generalize n/2*low=z at h
  omega
 ·exact h2
theorem low0 {n low:Int} (h:n*low%18446744073709551616=18446744073709551615):lim n 0*low%18446744073709551616=18446744073709551615:=by
 rw [lim_0,<- h]
 have:n=n%18446744073709551616+18446744073709551616*(n/18446744073709551616):=by omega
 refine md (-(n/18446744073709551616*low)) ?_
 conv=>rhs;rw [this]
 grind
theorem c_not {v x:Int} (h:v=if x=0 then 1 else 0):(v=1/\x=0)∨(v=0/\x≠0):=by
 by_cases hx:x=0 <;> simp [hx] at h <;> omega
def tLess:Tree:=(.req 0 [.var 3,.var 0]
(.lett 244 .num (.app 0 0 [.var 3,.var 0])
(.lett 245 .bit (.app 0 1 [.var 3,.var 0])
(.lett 580 .bit (.not (.var 245))
(.split 580
(.ret [.var 244])
(.ret [.var 3]))))))
theorem law_less (f1 f:FuncId) (e:Nat->Int) (hk:kkHas [.num,.int .u64,.num,.num] [e 0,e 1,e 2,e 3]):tLess.says [kWSub f1] ⟨fun ys=>ys=(kLess f).sem [e 0,e 1,e 2,e 3],[]⟩ e:=by
 obtain ⟨h0,h1,h2,h3,_⟩:=hk
 simp only [KK.has] at h0 h3
 simp only [tLess,kLess,kWSub,Tree.says,List.getElem?_cons_zero,List.map,ev_var,D.ev,List.getD_cons_zero,List.getD_cons_succ,bi]
 refine ⟨trivial,fun a1 _ a2 _ a3 _=>⟨fun hs=>?_,fun hs=>?_⟩⟩
 ·have a3':=c_not a3
  have:¬ e 3<e 0:=fun hc=>by rw [if_pos hc] at a2;omega
  rw [if_pos (by omega),a1,Int.emod_eq_of_lt (by omega) (by omega)]
 ·have a3':=c_not a3
  have:e 3<e 0:=by
   by_cases hc:e 3<e 0
   ·exact hc
   ·rw [if_neg hc] at a2;omega
  rw [if_neg (by omega)]
def z0:A:=.lit 0
def tMontR (i b:Nat) (t0 t1 t2 t3 t4 t5 t6:A) (k:A->A->A->A->A->A->A->Tree):Tree :=
 roundT 1 0 b (.limb 3 i) (.var 1) (.limb 0 0) (.limb 4 0) (.limb 4 1) (.limb 4 2) (.limb 4 3) (.limb 4 4) (.limb 4 5) (.limb 0 1) (.limb 0 2) (.limb 0 3) (.limb 0 4) (.limb 0 5) t0 t1 t2 t3 t4 t5 t6 k
def tMont:Tree :=
 tMontR 0 293 (.lit 0) (.lit 0) (.lit 0) (.lit 0) (.lit 0) (.lit 0) (.lit 0) fun t0 t1 t2 t3 t4 t5 t6 =>
 tMontR 1 4219 t0 t1 t2 t3 t4 t5 t6 fun t0 t1 t2 t3 t4 t5 t6 =>
 tMontR 2 8145 t0 t1 t2 t3 t4 t5 t6 fun t0 t1 t2 t3 t4 t5 t6 =>
 tMontR 3 12071 t0 t1 t2 t3 t4 t5 t6 fun t0 t1 t2 t3 t4 t5 t6 =>
 tMontR 4 15997 t0 t1 t2 t3 t4 t5 t6 fun t0 t1 t2 t3 t4 t5 t6 =>
 tMontR 5 19923 t0 t1 t2 t3 t4 t5 t6 fun t0 t1 t2 t3 t4 t5 _ =>
 (.lett 23561 .num (.join [t0,t1,t2,t3,t4,t5])
 (.req 2 [.var 0,.var 1,.var 2,.var 23561]
 (.lett 23562 .num (.app 2 0 [.var 0,.var 1,.var 2,.var 23561])
 (.ret [.var 23562]))))
theorem jo6 {x:Int} (h:0<=x/\x<N384) (e:Nat->Int) (i:Nat) (hi:e i=x):jo e [.limb i 0,.limb i 1,.limb i 2,.limb i 3,.limb i 4,.limb i 5]=x:=by
 have:=lim_eq h
 simp only [jo,ev_limb,hi]
 omega
theorem U_lim (e:Nat->Int) (i j:Nat):U ((A.limb i j).ev e):=lim_lt (e i) j
theorem jo_join (e:Nat->Int):∀ l:List A,joinE (l.map (·.ev e))=jo e l
 | []=>rfl
 | a::l=>by simp only [List.map,joinE,jo,jo_join e l]
theorem mont_fin {n a b V1 V2 V3 V4 V5 V6 a0 a1 a2 a3 a4 a5 q0 q1 q2 q3 q4 q5:Int} (e1:18446744073709551616*V1=0+a0*b+q0*n) (e2:18446744073709551616*V2=V1+a1*b+q1*n) (e3:18446744073709551616*V3=V2+a2*b+q2*n) (e4:18446744073709551616*V4=V3+a3*b+q3*n)
  (e5:18446744073709551616*V5=V4+a4*b+q4*n) (e6:18446744073709551616*V6=V5+a5*b+q5*n) (ha:a=wd a0 a1 a2 a3 a4 a5):N384*V6=a*b+wd q0 q1 q2 q3 q4 q5*n:=by
 rw [ha]
 unfold wd N384
 grind
theorem wd_lt {q0 q1 q2 q3 q4 q5:Int} (h0:U q0) (h1:U q1) (h2:U q2) (h3:U q3) (h4:U q4) (h5:U q5):0<=wd q0 q1 q2 q3 q4 q5/\wd q0 q1 q2 q3 q4 q5<N384:=by
 unfold U at *
 unfold wd N384
 omega
theorem mont_lt {n a b q v:Int} (ha:0<=a/\a<N384) (hb:0<=b/\b<N384) (hq:0<=q/\q<N384) (hn:3<=n) (hp:a<n∨b<n) (h:N384*v=a*b+q*n):v<2*n:=by
 have h1:a*b<=N384*n:=by
  rcases hp with hp | hp
  ·rw [Int.mul_comm N384];exact Int.mul_le_mul (by omega) (by omega) hb.1 (by omega)
  ·exact Int.mul_le_mul (by omega) (by omega) hb.1 (by unfold N384;omega)
 have h2:q*n<=(N384-1)*n:=Int.mul_le_mul_of_nonneg_right (by omega) (by omega)
 rw [Int.sub_mul] at h2
 have h3:N384*v<N384*(2*n):=by
  rw [show N384*(2*n)=N384*n+N384*n by rw [Int.mul_left_comm];omega];omega
 exact Int.lt_of_mul_lt_mul_left h3 (by unfold N384;omega)
theorem law_mont (f1 f2 f3 f:FuncId) (e:Nat->Int) (hk:kkHas [.num,.int .u64,.num,.num,.num] [e 0,e 1,e 2,e 3,e 4]) (hp:(kMont f).pre [e 0,e 1,e 2,e 3,e 4]) :
  tMont.says [kAdd64 f1,kMul64 f2,kLess f3] ⟨fun ys=>ys=(kMont f).sem [e 0,e 1,e 2,e 3,e 4],[]⟩ e:=by
 obtain ⟨h0,h1,h2,h3,h4,_⟩:=hk
 obtain ⟨⟨hl,hn3,hn2⟩,hab⟩:=hp
 have hx:∀ i j,U ((A.limb i j).ev e):=U_lim e
 have hb6:=jo6 h4 e 4 rfl
 have hn6:=jo6 h0 e 0 rfl
 have hB:AllU e [.limb 4 0,.limb 4 1,.limb 4 2,.limb 4 3,.limb 4 4,.limb 4 5]:=⟨hx _ _,hx _ _,hx _ _,hx _ _,hx _ _,hx _ _,trivial⟩
 have hN:AllU e [.limb 0 0,.limb 0 1,.limb 0 2,.limb 0 3,.limb 0 4,.limb 0 5]:=⟨hx _ _,hx _ _,hx _ _,hx _ _,hx _ _,hx _ _,trivial⟩
 have hl0:(A.limb 0 0).ev e*(A.var 1).ev e%18446744073709551616=18446744073709551615:=low0 hl
 have hz:U ((A.lit 0).ev e):=by show U 0;unfold U;omega
 unfold tMont tMontR
 refine round_says (V:=0) rfl rfl (hx _ _) hB hN ⟨hz,hz,hz,hz,hz,hz,hz,trivial⟩ hb6.symm hn6.symm (by simp only [jo,ev_lit];omega) (by have:=h4.1;omega) hl0 fun V1 q0 t1 v1 b1 _ k1 E1=>?_
 refine round_says rfl rfl (hx _ _) hB hN t1 hb6.symm hn6.symm v1 b1 hl0 fun V2 q1 t2 v2 b2 _ k2 E2=>?_
 refine round_says rfl rfl (hx _ _) hB hN t2 hb6.symm hn6.symm v2 b2 hl0 fun V3 q2 t3 v3 b3 _ k3 E3=>?_
 refine round_says rfl rfl (hx _ _) hB hN t3 hb6.symm hn6.symm v3 b3 hl0 fun V4 q3 t4 v4 b4 _ k4 E4=>?_
 refine round_says rfl rfl (hx _ _) hB hN t4 hb6.symm hn6.symm v4 b4 hl0 fun V5 q4 t5 v5 b5 _ k5 E5=>?_
 refine round_says rfl rfl (hx _ _) hB hN t5 hb6.symm hn6.symm v5 b5 hl0 fun V6 q5 t6 v6 b6 p6 k6 E6=>?_
 have ha:e 3=wd (lim (e 3) 0) (lim (e 3) 1) (lim (e 3) 2) (lim (e 3) 3) (lim (e 3) 4) (lim (e 3) 5):=lim_eq h3
 have fin:=mont_fin E1 E2 E3 E4 E5 E6 ha
 have hq:=wd_lt k1 k2 k3 k4 k5 k6
 have hlt:=mont_lt h3 h4 hq hn3 hab fin
 have hmv:=montv_of (odd_of hl) fin
 have h22:(2:Int)^382=9850501549098619803069760025035903451269934817616361666987073351061430442874302652853566563721228910201656997576704:=by decide +kernel
 obtain ⟨u0,u1,u2,u3,u4,u5,u6,_⟩:=t6
 have hv6:e 23560=0/\V6=jo e [.var 23523,.var 23531,.var 23539,.var 23547,.var 23555,.var 23558]:=by
  have hj:0<=jo e [.var 23523,.var 23531,.var 23539,.var 23547,.var 23555,.var 23558]:=by
   have w0:U (e 23523):=u0
   have w1:U (e 23531):=u1
   have w2:U (e 23539):=u2
   have w3:U (e 23547):=u3
   have w4:U (e 23555):=u4
   have w5:U (e 23558):=u5
   unfold U at w0 w1 w2 w3 w4 w5
   simp only [jo,ev_var];omega
  have hu:0<=e 23560:=u6.1
  rw [h22] at hn2
  have hv6':V6=jo e [.var 23523,.var 23531,.var 23539,.var 23547,.var 23555,.var 23558]+N384*e 23560:=v6
  generalize jo e [.var 23523,.var 23531,.var 23539,.var 23547,.var 23555,.var 23558]=J at *
  unfold N384 at hv6'
  omega
 refine fun c1 _=>⟨trivial,fun c2 _=>?_⟩
 have c1':e 23561=V6:=by
  rw [c1,hv6.2];exact jo_join e [.var 23523,.var 23531,.var 23539,.var 23547,.var 23555,.var 23558]
 have c2':e 23562=if e 0<=e 23561 then e 23561-e 0 else e 23561:=c2
 show [e 23562]=[montv (e 0) (e 3) (e 4)]
 rw [c2',c1',<- hmv]
 congr 1
 split
 ·exact (md_eq 1 (by omega) (by omega) (by omega)).symm
 ·exact (Int.emod_eq_of_lt p6 (by omega)).symm
def blen (x:Int):Int:=if x<=0 then 0 else (x.toNat.log2:Int)+1
def kLen64 (f:FuncId):K:={fn:=f,ext:=false,ins:=[iU],outs:=[oI],pre:=fun _=>True,sem:=fun | [a]=>[blen a] | _=>[] }
def kWLen (f:FuncId):K:={fn:=f,ext:=false,ins:=[iN],outs:=[oI],pre:=fun _=>True,sem:=fun | [a]=>[blen a] | _=>[] }
def kBit (f:FuncId):K:={fn:=f,ext:=false,ins:=[iN,iI],outs:=[oI],pre:=fun _=>True,sem:=fun | [a,i]=>[if 0<=i/\i<384 then a/2^i.toNat%2 else 0] | _=>[] }
def wideOf (n:Int):Int:=2^768%n
def mGood (n low w:Int):Prop:=mOk n low/\w=wideOf n
def newton (n:Int):Nat->Int->Int
 | 0,x=>x
 | k+1,x=>newton n k (x*((2-n*x%18446744073709551616)%18446744073709551616)%18446744073709551616)
def lowOf (n:Int):Int:=(-(newton (n%18446744073709551616) 6 (n%18446744073709551616)))%18446744073709551616
abbrev cOK:L:=.cst (.int .i64 (.lit 0))
def kNew (f:FuncId) (te:TypeId):K:={fn:=f,ext:=false,ins:=[iN],outs:=[.box te [.num,.int .u64,.num],.one cOK],pre:=fun | [n]=>n%2=1/\3<=n/\n<2^382 | _=>False,sem:=fun | [n]=>[n,lowOf n,wideOf n] | _=>[] }
def kReduce (f:FuncId):K:={fn:=f,ext:=false,ins:=[iM,iN],outs:=[oN],pre:=fun | [n,low,w,_]=>mGood n low w | _=>False,sem:=fun | [n,_,_,a]=>[a%n] | _=>[] }
def kMAdd (f:FuncId):K:={fn:=f,ext:=false,ins:=[iM,iN,iN],outs:=[oN],pre:=fun | [n,low,w,_,_]=>mGood n low w | _=>False,sem:=fun | [n,_,_,a,b]=>[(a+b)%n] | _=>[] }
def kMSub (f:FuncId):K:={fn:=f,ext:=false,ins:=[iM,iN,iN],outs:=[oN],pre:=fun | [n,low,w,_,_]=>mGood n low w | _=>False,sem:=fun | [n,_,_,a,b]=>[(a-b)%n] | _=>[] }
def kMMul (f:FuncId):K:={fn:=f,ext:=false,ins:=[iM,iN,iN],outs:=[oN],pre:=fun | [n,low,w,_,_]=>mGood n low w | _=>False,sem:=fun | [n,_,_,a,b]=>[(a*b)%n] | _=>[] }
def kMNeg (f:FuncId):K:={fn:=f,ext:=false,ins:=[iM,iN],outs:=[oN],pre:=fun | [n,low,w,_]=>mGood n low w | _=>False,sem:=fun | [n,_,_,a]=>[(-a)%n] | _=>[] }
def kHalf (f:FuncId):K:={fn:=f,ext:=false,ins:=[iM,iN],outs:=[oN],pre:=fun | [n,low,w,a]=>mGood n low w/\a<n | _=>False,sem:=fun | [n,_,_,a]=>[a*half2 n%n] | _=>[] }
open Classical in
noncomputable def invM (n a:Int):Int:=if h:∃ y,0<=y/\y<n/\a*y%n=1 then h.choose else 0
open Classical in
noncomputable def kMInv (f:FuncId):K:={fn:=f,ext:=false,ins:=[iM,iN],outs:=[oN,oI],pre:=fun | [n,low,w,_]=>mGood n low w | _=>False,sem:=fun | [n,_,_,a]=>[invM n a,if ∃ y,0<=y/\y<n/\a*y%n=1 then 0 else 6] | _=>[] }
def rGreat:Int:=52435875175126190479447740508185965837690552500527637822603658699938581184513
def rOf (s:Int):Int:=if s=0 then rGreat else if s=1 then 65521 else 72057594037927889
def isS (s:Int):Prop:=0<=s/\s<=2
instance (s:Int):Decidable (isS s):=inferInstanceAs (Decidable (_/\_))
def kOrder (f:FuncId):K:={fn:=f,ext:=false,ins:=[iI],outs:=[oN],pre:=fun | [s]=>isS s | _=>False,sem:=fun | [s]=>[rOf s] | _=>[] }
def kSOrder (f:FuncId):K:={fn:=f,ext:=false,ins:=[iI],outs:=[oN,oI],pre:=fun _=>True,sem:=fun | [s]=>if isS s then [rOf s,0] else [0,2] | _=>[] }
def sem2 (op:Int->Int->Int):List Int->List Int:=fun | [s,a,b]=>if isS s/\a<rOf s/\b<rOf s then [op a b%rOf s,0] else [0,2] | _=>[]
def kS2 (f:FuncId) (op:Int->Int->Int):K:={fn:=f,ext:=false,ins:=[iI,iN,iN],outs:=[oN,oI],pre:=fun _=>True,sem:=sem2 op }
open Classical in
noncomputable def kSInv (f:FuncId):K:={fn:=f,ext:=false,ins:=[iI,iN],outs:=[oN,oI],pre:=fun _=>True,sem:=fun | [s,a]=>if isS s/\a<rOf s then [invM (rOf s) a,if ∃ y,0<=y/\y<rOf s/\a*y%rOf s=1 then 0 else 6] else [0,2] | _=>[] }
def kShR1 (f:FuncId):K:={fn:=f,ext:=false,ins:=[iN,.one (.cst (.int .i64 (.lit (-1))))],outs:=[oN],pre:=fun _=>True,sem:=fun | [a]=>[a/2] | _=>[] }
def kOf (f:FuncId):K:={fn:=f,ext:=false,ins:=[iU],outs:=[oN],pre:=fun _=>True,sem:=fun | [a]=>[a] | _=>[] }
abbrev iC:Sh:=.agg [.int .u64,.int .u64,.int .u64,.int .u64,.int .u64,.bool]
def kDiv64 (f:FuncId):K:={fn:=f,ext:=false,ins:=[iU,iU,iU],outs:=[oU,oU],pre:=fun | [h,_,y]=>h<y | _=>False,sem:=fun | [h,l,y]=>[(h*18446744073709551616+l)/y,(h*18446744073709551616+l)%y] | _=>[] }
def kRem64 (f:FuncId):K:={fn:=f,ext:=false,ins:=[iU,iU,iU],outs:=[oU],pre:=fun | [_,_,y]=>0<y | _=>False,sem:=fun | [h,l,y]=>[(h*18446744073709551616+l)%y] | _=>[] }
set_option maxRecDepth 100000
def tab8:List A:=(List.range 256).map fun n=>.lit (if n=0 then 0 else (n.log2:Int)+1)
theorem tab8_ok:∀ n:Nat,n<256->∀ e:Nat->Int,(tab8.map (·.ev e)).getD n 0=blen n:=by
 intro n hn e
 simp only [tab8,List.map_map,List.getD_eq_getElem?_getD,List.getElem?_map,List.getElem?_range hn,Option.map_some,Option.getD_some,Function.comp_apply,A.ev,blen]
 by_cases h:n=0
 ·subst h;rfl
 ·rw [if_neg h,if_neg (by omega)];simp
theorem shr_d {v x:Int} {k:IntKind} {c:Int} (d:Int) (h:v=binE .shr k x c) (hd:((2^(min c.toNat k.bits):Nat):Int)=d) (hd0:0<=d):v=x/d:=by
 rw [h];simp only [binE];rw [hd];exact Int.fdiv_eq_ediv_of_nonneg _ hd0
theorem shl_d {v x:Int} {k:IntKind} {c:Int} (d:Int) (h:v=binE .shl k x c) (hd:((2^(min c.toNat k.bits):Nat):Int)=d):v=wr k (x*d):=by
 rw [h];simp only [binE];rw [hd]
theorem blen_1 {x:Int} (h:1<=x):blen x=1+blen (x/2):=by
 obtain ⟨n,rfl⟩:=Int.eq_ofNat_of_zero_le (show 0<=x by omega)
 unfold blen
 rw [if_neg (by omega)]
 simp only [Int.toNat_natCast]
 rw [Nat.log2_def]
 by_cases h2:2<=n
 ·rw [if_pos h2,if_neg (by omega),show ((n:Int)/2).toNat=n/2 by omega];push_cast;omega
 ·rw [if_neg h2,if_pos (by omega)];rfl
theorem blen_shift:∀ (k:Nat) (x:Int),(2:Int)^k<=x->blen x=k+blen (x/2^k)
 | 0,x,_=>by simp
 | k+1,x,h=>by
  rw [Int.pow_succ] at h
  have hp:(0:Int)<2^k:=Int.pow_pos (by omega)
  have h1:(2:Int)^k<=x/2:=by omega
  rw [blen_1 (by omega),blen_shift k (x/2) h1,Int.pow_succ,Int.mul_comm,Int.ediv_ediv_of_nonneg (by omega)]
  push_cast;omega
theorem blen_nn (x:Int):0<=blen x:=by unfold blen;split <;> omega
theorem blen_le:∀ (k:Nat) (x:Int),0<=x->x<2^k->blen x<=k
 | 0,x,h0,h=>by simp at h;unfold blen;rw [if_pos (by omega)];omega
 | k+1,x,h0,h=>by
  by_cases h1:1<=x
  ·rw [blen_1 h1];rw [Int.pow_succ] at h
   have:=blen_le k (x/2) (by omega) (by omega)
   push_cast;omega
  ·unfold blen;rw [if_pos (by omega)];omega
theorem blen_gt:∀ (k:Nat) (x:Int),(2:Int)^k<=x->k<blen x
 | k,x,h=>by
  have hp:(0:Int)<2^k:=Int.pow_pos (by omega)
  rw [blen_shift k x h]
  have:1<=x/2^k:=Int.le_ediv_of_mul_le hp (by omega)
  rw [blen_1 this]
  have:=blen_nn (x/2^k/2)
  omega
def tLen64:Tree:=(.lett 1 .bit (.cmp .geq (.var 0) (.lit 4294967296))
(.split 1
(.lett 2 (.int .u64) (.bin .shr .u64 (.var 0) (.lit 32))
(.lett 3 .bit (.cmp .geq (.var 2) (.lit 65536))
(.split 3
 (.lett 4 (.int .u64) (.bin .shr .u64 (.var 2) (.lit 16))
 (.lett 5 .bit (.cmp .geq (.var 4) (.lit 256))
 (.split 5
 (.lett 6 (.int .u64) (.bin .shr .u64 (.var 4) (.lit 8))
 (.lett 7 (.int .u8) (.conv .u8 (.var 6))
 (.lett 8 .bit (.cmp .leq (.lit 0) (.var 7))
 (.lett 9 .bit (.cmp .lss (.var 7) (.lit 256))
 (.lett 10 (.int .u8) (.sel (.var 7) tab8)
 (.nz (.var 8)
 (.nz (.var 9)
 (.lett 11 (.int .i64) (.bin .add .i64 (.lit 56) (.var 10))
 (.ret [.var 11])))))))))
 (.lett 6 (.int .u8) (.conv .u8 (.var 4))
 (.lett 7 .bit (.cmp .leq (.lit 0) (.var 6))
 (.lett 8 .bit (.cmp .lss (.var 6) (.lit 256))
 (.lett 9 (.int .u8) (.sel (.var 6) tab8)
 (.nz (.var 7)
 (.nz (.var 8)
 (.lett 10 (.int .i64) (.bin .add .i64 (.lit 48) (.var 9))
 (.ret [.var 10])))))))))))
 (.lett 4 .bit (.cmp .geq (.var 2) (.lit 256))
 (.split 4
 (.lett 5 (.int .u64) (.bin .shr .u64 (.var 2) (.lit 8))
 (.lett 6 (.int .u8) (.conv .u8 (.var 5))
 (.lett 7 .bit (.cmp .leq (.lit 0) (.var 6))
 (.lett 8 .bit (.cmp .lss (.var 6) (.lit 256))
 (.lett 9 (.int .u8) (.sel (.var 6) tab8)
 (.nz (.var 7)
 (.nz (.var 8)
 (.lett 10 (.int .i64) (.bin .add .i64 (.lit 40) (.var 9))
 (.ret [.var 10])))))))))
 (.lett 5 (.int .u8) (.conv .u8 (.var 2))
 (.lett 6 .bit (.cmp .leq (.lit 0) (.var 5))
 (.lett 7 .bit (.cmp .lss (.var 5) (.lit 256))
 (.lett 8 (.int .u8) (.sel (.var 5) tab8)
 (.nz (.var 6)
 (.nz (.var 7)
 (.lett 9 (.int .i64) (.bin .add .i64 (.lit 32) (.var 8))
 (.ret [.var 9])))))))))))))
(.lett 2 .bit (.cmp .geq (.var 0) (.lit 65536))
(.split 2
 (.lett 3 (.int .u64) (.bin .shr .u64 (.var 0) (.lit 16))
 (.lett 4 .bit (.cmp .geq (.var 3) (.lit 256))
 (.split 4
 (.lett 5 (.int .u64) (.bin .shr .u64 (.var 3) (.lit 8))
 (.lett 6 (.int .u8) (.conv .u8 (.var 5))
 (.lett 7 .bit (.cmp .leq (.lit 0) (.var 6))
 (.lett 8 .bit (.cmp .lss (.var 6) (.lit 256))
 (.lett 9 (.int .u8) (.sel (.var 6) tab8)
 (.nz (.var 7)
 (.nz (.var 8)
 (.lett 10 (.int .i64) (.bin .add .i64 (.lit 24) (.var 9))
 (.ret [.var 10])))))))))
 (.lett 5 (.int .u8) (.conv .u8 (.var 3))
 (.lett 6 .bit (.cmp .leq (.lit 0) (.var 5))
 (.lett 7 .bit (.cmp .lss (.var 5) (.lit 256))
 (.lett 8 (.int .u8) (.sel (.var 5) tab8)
 (.nz (.var 6)
 (.nz (.var 7)
 (.lett 9 (.int .i64) (.bin .add .i64 (.lit 16) (.var 8))
 (.ret [.var 9])))))))))))
 (.lett 3 .bit (.cmp .geq (.var 0) (.lit 256))
 (.split 3
 (.lett 4 (.int .u64) (.bin .shr .u64 (.var 0) (.lit 8))
 (.lett 5 (.int .u8) (.conv .u8 (.var 4))
 (.lett 6 .bit (.cmp .leq (.lit 0) (.var 5))
 (.lett 7 .bit (.cmp .lss (.var 5) (.lit 256))
 (.lett 8 (.int .u8) (.sel (.var 5) tab8)
 (.nz (.var 6)
 (.nz (.var 7)
 (.lett 9 (.int .i64) (.bin .add .i64 (.lit 8) (.var 8))
 (.ret [.var 9])))))))))
 (.lett 4 (.int .u8) (.conv .u8 (.var 0))
 (.lett 5 .bit (.cmp .leq (.lit 0) (.var 4))
 (.lett 6 .bit (.cmp .lss (.var 4) (.lit 256))
 (.lett 7 (.int .u8) (.sel (.var 4) tab8)
 (.nz (.var 5)
 (.nz (.var 6)
 (.lett 8 (.int .i64) (.bin .add .i64 (.lit 0) (.var 7))
 (.ret [.var 8]))))))))))))))
theorem len_leaf {e:Nat->Int} {x v w t r c:Int} (k:Nat) (hx:0<=x) (hv:v=x/2^k) (h0:0<=v) (h1:v<256) (h2:k=0∨(2:Int)^k<=x) (hw:w=wr .u8 v) (ht:t=(tab8.map (·.ev e)).getD w.toNat 0) (hk:k<=56) (hc:c=k) (hr:r=binE .add .i64 c t):r=blen x:=by
 have hw':w=v:=by simp only [wr] at hw;omega
 obtain ⟨n,hn⟩:=Int.eq_ofNat_of_zero_le h0
 rw [hw',hn,Int.toNat_natCast,tab8_ok n (by omega),<- hn] at ht
 have hb:blen v<=8:=blen_le 8 v h0 (by rw [show (2:Int)^8=256 from rfl];exact h1)
 have hb0:=blen_nn v
 have:blen x=k+blen v:=by
  rcases h2 with h2 | h2
  ·subst h2;simp at hv;rw [hv];simp
  ·rw [hv];exact blen_shift k x h2
 rw [hr,this,<- ht,hc]
 simp only [binE,wr]
 omega
theorem bit_nz {v w:Int} (h:v=b2i (cmpE .leq 0 w)) (hw:0<=w):v≠0:=by have:=c_le h;omega
theorem lt_nz {v w b:Int} (h:v=b2i (cmpE .lss w b)) (hw:w<b):v≠0:=by have:=c_lt h;omega
theorem law_len64 (f:FuncId) (e:Nat->Int) (hk:kkHas [.int .u64] [e 0]):tLen64.says [] ⟨fun ys=>ys=(kLen64 f).sem [e 0],[]⟩ e:=by
 have hx:=has_u64 hk.1
 have p8:(2:Int)^8=256:=rfl
 have p16:(2:Int)^16=65536:=rfl
 have p24:(2:Int)^24=16777216:=rfl
 have p32:(2:Int)^32=4294967296:=rfl
 have p40:(2:Int)^40=1099511627776:=rfl
 have p48:(2:Int)^48=281474976710656:=rfl
 have p56:(2:Int)^56=72057594037927936:=rfl
 simp only [tLen64,kLen64,Tree.says,List.getElem?_cons_zero,List.getElem?_cons_succ,List.map,ev_lit,ev_var,ev_limb,D.ev,List.getD_cons_zero,List.getD_cons_succ]
 intro a1 _
 have b1:=c_ge a1
 refine ⟨fun n1=>?_,fun n1=>?_⟩
 ·intro a2 _ a3 _
  have d2:=shr_d 4294967296 a2 rfl (by decide)
  have b3:=c_ge a3
  refine ⟨fun n3=>?_,fun n3=>?_⟩
  ·intro a4 _ a5 _
   have d4:=shr_d 65536 a4 rfl (by decide)
   have b5:=c_ge a5
   refine ⟨fun n5=>?_,fun n5=>?_⟩
   ·intro a6 _ a7 _ a8 _ a9 _ a10 _
    have d6:=shr_d 256 a6 rfl (by decide)
    have h7:e 7=e 6:=by simp only [wr] at a7;omega
    refine ⟨bit_nz a8 (by omega),lt_nz a9 (by omega),fun a11 _=>?_⟩
    rw [len_leaf (x:=e 0) 56 hx.1 (by omega) (by omega) (by omega) (.inr (by omega)) a7 a10 (by omega) rfl a11]
   ·intro a6 _ a8 _ a9 _ a10 _
    have h7:e 6=e 4:=by simp only [wr] at a6;omega
    refine ⟨bit_nz a8 (by omega),lt_nz a9 (by omega),fun a11 _=>?_⟩
    rw [len_leaf (x:=e 0) 48 hx.1 (by omega) (by omega) (by omega) (.inr (by omega)) a6 a10 (by omega) rfl a11]
  ·intro a5 _
   have b5:=c_ge a5
   refine ⟨fun n5=>?_,fun n5=>?_⟩
   ·intro a6 _ a7 _ a8 _ a9 _ a10 _
    have d6:=shr_d 256 a6 rfl (by decide)
    have h7:e 6=e 5:=by simp only [wr] at a7;omega
    refine ⟨bit_nz a8 (by omega),lt_nz a9 (by omega),fun a11 _=>?_⟩
    rw [len_leaf (x:=e 0) 40 hx.1 (by omega) (by omega) (by omega) (.inr (by omega)) a7 a10 (by omega) rfl a11]
   ·intro a6 _ a8 _ a9 _ a10 _
    have h7:e 5=e 2:=by simp only [wr] at a6;omega
    refine ⟨bit_nz a8 (by omega),lt_nz a9 (by omega),fun a11 _=>?_⟩
    rw [len_leaf (x:=e 0) 32 hx.1 (by omega) (by omega) (by omega) (.inr (by omega)) a6 a10 (by omega) rfl a11]
 ·intro a3 _
  have b3:=c_ge a3
  refine ⟨fun n3=>?_,fun n3=>?_⟩
  ·intro a4 _ a5 _
   have d4:=shr_d 65536 a4 rfl (by decide)
   have b5:=c_ge a5
   refine ⟨fun n5=>?_,fun n5=>?_⟩
   ·intro a6 _ a7 _ a8 _ a9 _ a10 _
    have d6:=shr_d 256 a6 rfl (by decide)
    have h7:e 6=e 5:=by simp only [wr] at a7;omega
    refine ⟨bit_nz a8 (by omega),lt_nz a9 (by omega),fun a11 _=>?_⟩
    rw [len_leaf (x:=e 0) 24 hx.1 (by omega) (by omega) (by omega) (.inr (by omega)) a7 a10 (by omega) rfl a11]
   ·intro a6 _ a8 _ a9 _ a10 _
    have h7:e 5=e 3:=by simp only [wr] at a6;omega
    refine ⟨bit_nz a8 (by omega),lt_nz a9 (by omega),fun a11 _=>?_⟩
    rw [len_leaf (x:=e 0) 16 hx.1 (by omega) (by omega) (by omega) (.inr (by omega)) a6 a10 (by omega) rfl a11]
  ·intro a5 _
   have b5:=c_ge a5
   refine ⟨fun n5=>?_,fun n5=>?_⟩
   ·intro a6 _ a7 _ a8 _ a9 _ a10 _
    have d6:=shr_d 256 a6 rfl (by decide)
    have h7:e 5=e 4:=by simp only [wr] at a7;omega
    refine ⟨bit_nz a8 (by omega),lt_nz a9 (by omega),fun a11 _=>?_⟩
    rw [len_leaf (x:=e 0) 8 hx.1 (by omega) (by omega) (by omega) (.inr (by omega)) a7 a10 (by omega) rfl a11]
   ·intro a6 _ a8 _ a9 _ a10 _
    have h7:e 4=e 0:=by simp only [wr] at a6;omega
    refine ⟨bit_nz a8 (by omega),lt_nz a9 (by omega),fun a11 _=>?_⟩
    rw [len_leaf (x:=e 0) 0 hx.1 (by simp) (by omega) (by omega) (.inl rfl) a6 a10 (by omega) rfl a11]
set_option maxRecDepth 100000
theorem p320:(2:Int)^320=2135987035920910082395021706169552114602704522356652769947041607822219725780640550022962086936576:=by decide +kernel
theorem p256:(2:Int)^256=115792089237316195423570985008687907853269984665640564039457584007913129639936:=by decide +kernel
theorem p192:(2:Int)^192=6277101735386680763835789423207666416102355444464034512896:=by decide +kernel
theorem p128:(2:Int)^128=340282366920938463463374607431768211456:=by decide +kernel
theorem p64':(2:Int)^64=18446744073709551616:=by decide +kernel
theorem p382:(2:Int)^382=9850501549098619803069760025035903451269934817616361666987073351061430442874302652853566563721228910201656997576704:=by decide +kernel
theorem len_word {x l r c t:Int} (k:Nat) (h1:x/2^k=l) (h2:1<=l) (hl:U l) (hc:c=k) (hk:k<=320) (ht:t=blen l) (hr:r=binE .add .i64 c t):r=blen x:=by
 have hp:(0:Int)<2^k:=Int.pow_pos (by omega)
 have:(2:Int)^k<=x:=by
  have:=Int.mul_le_of_le_ediv (a:=1) hp (show (1:Int)<=x/2^k by omega);omega
 rw [blen_shift k x this,h1]
 have b0:=blen_nn l
 have b1:=blen_le 64 l hl.1 (by rw [p64'];exact hl.2)
 rw [hr,hc,ht]
 simp only [binE,wr]
 omega
def tWLen:Tree:=(.lett 1 .bit (.cmp .neq (.limb 0 5) (.lit 0))
(.split 1
(.req 0 [.limb 0 5]
(.lett 2 (.int .i64) (.app 0 0 [.limb 0 5])
(.lett 3 (.int .i64) (.bin .add .i64 (.lit 320) (.var 2))
(.ret [.var 3]))))
(.lett 2 .bit (.cmp .neq (.limb 0 4) (.lit 0))
(.split 2
 (.req 0 [.limb 0 4]
 (.lett 3 (.int .i64) (.app 0 0 [.limb 0 4])
 (.lett 4 (.int .i64) (.bin .add .i64 (.lit 256) (.var 3))
 (.ret [.var 4]))))
 (.lett 3 .bit (.cmp .neq (.limb 0 3) (.lit 0))
 (.split 3
 (.req 0 [.limb 0 3]
 (.lett 4 (.int .i64) (.app 0 0 [.limb 0 3])
 (.lett 5 (.int .i64) (.bin .add .i64 (.lit 192) (.var 4))
 (.ret [.var 5]))))
 (.lett 4 .bit (.cmp .neq (.limb 0 2) (.lit 0))
 (.split 4
 (.req 0 [.limb 0 2]
 (.lett 5 (.int .i64) (.app 0 0 [.limb 0 2])
 (.lett 6 (.int .i64) (.bin .add .i64 (.lit 128) (.var 5))
 (.ret [.var 6]))))
 (.lett 5 .bit (.cmp .neq (.limb 0 1) (.lit 0))
 (.split 5
 (.req 0 [.limb 0 1]
 (.lett 6 (.int .i64) (.app 0 0 [.limb 0 1])
 (.lett 7 (.int .i64) (.bin .add .i64 (.lit 64) (.var 6))
 (.ret [.var 7]))))
 (.lett 6 .bit (.cmp .neq (.limb 0 0) (.lit 0))
 (.split 6
 (.req 0 [.limb 0 0]
 (.lett 7 (.int .i64) (.app 0 0 [.limb 0 0])
 (.lett 8 (.int .i64) (.bin .add .i64 (.lit 0) (.var 7))
 (.ret [.var 8]))))
 (.ret [.lit 0])))))))))))))
theorem law_wLen (f1 f:FuncId) (e:Nat->Int) (hk:kkHas [.num] [e 0]):tWLen.says [kLen64 f1] ⟨fun ys=>ys=(kWLen f).sem [e 0],[]⟩ e:=by
 have hx:=hk.1
 have ex:=lim_eq hx
 have l0:=lim_lt (e 0) 0
 have l1:=lim_lt (e 0) 1
 have l2:=lim_lt (e 0) 2
 have l3:=lim_lt (e 0) 3
 have l4:=lim_lt (e 0) 4
 have l5:=lim_lt (e 0) 5
 simp only [tWLen,kLen64,kWLen,Tree.says,List.getElem?_cons_zero,List.getElem?_cons_succ,List.map,ev_lit,ev_var,ev_limb,D.ev,List.getD_cons_zero,List.getD_cons_succ]
 generalize lim (e 0) 0=x0 at *
 generalize lim (e 0) 1=x1 at *
 generalize lim (e 0) 2=x2 at *
 generalize lim (e 0) 3=x3 at *
 generalize lim (e 0) 4=x4 at *
 generalize lim (e 0) 5=x5 at *
 have q5:e 0/2^320=x5:=by rw [p320];omega
 intro a _
 have b:=c_ne a
 refine ⟨fun n=>⟨trivial,fun a2 _ a3 _=>by rw [len_word 320 q5 (by omega) l5 rfl (by omega) a2 a3]⟩,fun n=>?_⟩
 have z5:x5=0:=by omega
 have q4:e 0/2^256=x4:=by rw [p256];omega
 clear q5 a b n
 intro a _
 have b:=c_ne a
 refine ⟨fun n=>⟨trivial,fun a2 _ a3 _=>by rw [len_word 256 q4 (by omega) l4 rfl (by omega) a2 a3]⟩,fun n=>?_⟩
 have z4:x4=0:=by omega
 have q3:e 0/2^192=x3:=by rw [p192];omega
 clear q4 a b n
 intro a _
 have b:=c_ne a
 refine ⟨fun n=>⟨trivial,fun a2 _ a3 _=>by rw [len_word 192 q3 (by omega) l3 rfl (by omega) a2 a3]⟩,fun n=>?_⟩
 have z3:x3=0:=by omega
 have q2:e 0/2^128=x2:=by rw [p128];omega
 clear q3 a b n
 intro a _
 have b:=c_ne a
 refine ⟨fun n=>⟨trivial,fun a2 _ a3 _=>by rw [len_word 128 q2 (by omega) l2 rfl (by omega) a2 a3]⟩,fun n=>?_⟩
 have z2:x2=0:=by omega
 have q1:e 0/2^64=x1:=by rw [p64'];omega
 clear q2 a b n
 intro a _
 have b:=c_ne a
 refine ⟨fun n=>⟨trivial,fun a2 _ a3 _=>by rw [len_word 64 q1 (by omega) l1 rfl (by omega) a2 a3]⟩,fun n=>?_⟩
 have z1:x1=0:=by omega
 clear q1 a b n
 intro a _
 have b:=c_ne a
 refine ⟨fun n=>⟨trivial,fun a2 _ a3 _=>by rw [len_word 0 (x:=e 0) (by simp;omega) (by omega) l0 rfl (by omega) a2 a3]⟩,fun n=>?_⟩
 have z0:e 0=0:=by omega
 rw [z0];rfl
theorem lim_div {x:Int} (j:Nat):lim x j=x/2^(64*j)%18446744073709551616:=by
 unfold lim p64;rw [Int.natCast_pow];rfl
theorem bit_of {x l:Int} {q r:Nat} (hr:r<64) (hl:l=x/2^(64*q)%18446744073709551616):l/2^r%2=x/2^(64*q+r)%2:=by
 rw [Int.pow_add,<- Int.ediv_ediv_of_nonneg (Int.pow_nonneg (by omega))]
 generalize x/2^(64*q)=X at *
 have h1:X=l+18446744073709551616*(X/18446744073709551616):=by omega
 have hp:(0:Int)<2^r:=Int.pow_pos (by omega)
 have h2:(18446744073709551616:Int)=2^r*(2*2^(63-r)):=by
  rw [<- p64',show (2:Int)*2^(63-r)=2^(64-r) by rw [<- Int.pow_succ'];congr 1;omega,<- Int.pow_add];congr 1;omega
 have h3:X/2^r=l/2^r+2*(2^(63-r)*(X/18446744073709551616)):=by
  conv=>lhs;rw [h1,h2,show 2^r*(2*2^(63-r))*(X/(2^r*(2*2^(63-r))))=2^r*(2*(2^(63-r)*(X/(2^r*(2*2^(63-r)))))) by simp only [Int.mul_assoc]]
  rw [Int.add_mul_ediv_left _ _ (by omega),<- h2]
 rw [h3];omega
theorem bit_fin {e:Nat->Int} {a i q s r v w z:Int} (hi:0<=i/\i<384) (ha:0<=a/\a<N384) (q':q=i/64) (hs:s=([(lim a 0),(lim a 1),(lim a 2),(lim a 3),(lim a 4),(lim a 5)]:List Int).getD q.toNat 0)
  (hr':r=i%64) (hv:v=binE .shr .u64 s r) (hw:w=binE .and .u64 v 1) (hz:z=wr .i64 w):z=a/2^i.toNat%2:=by
 have hsl:s=lim a q.toNat:=by
  have:q=0∨q=1∨q=2∨q=3∨q=4∨q=5:=by omega
  rw [hs]
  rcases this with h | h | h | h | h | h <;> rw [h] <;> rfl
 have hU:=lim_lt a q.toNat
 rw [<- hsl] at hU
 have hrn:r=((r.toNat:Nat):Int):=by omega
 have hv':v=s/2^r.toNat:=by
  rw [hv];simp only [binE]
  rw [show min r.toNat IntKind.u64.bits=r.toNat by show min r.toNat 64=_;omega,Int.natCast_pow]
  exact Int.fdiv_eq_ediv_of_nonneg _ (Int.pow_nonneg (by decide))
 have hp:(0:Int)<2^r.toNat:=Int.pow_pos (by omega)
 have hvU:U v:=by
  rw [hv']
  exact ⟨Int.ediv_nonneg hU.1 (by omega),Int.lt_of_le_of_lt (Int.ediv_le_self _ hU.1) hU.2⟩
 have hw':w=v%2:=by rw [hw];exact and_mask v 1 (by omega) hvU
 have hz':z=w:=by simp only [wr] at hz;omega
 rw [hz',hw',hv',bit_of (q:=q.toNat) (by omega) (by rw [hsl];exact lim_div _)]
 congr 3;omega
def tBit:Tree:=(.lett 2 .bit (.cmp .lss (.var 1) (.lit 0))
(.split 2
(.ret [.lit 0])
(.lett 3 .bit (.cmp .geq (.var 1) (.lit 384))
(.split 3
 (.ret [.lit 0])
 (.lett 4 (.int .i64) (.bin .shr .i64 (.var 1) (.lit 6))
 (.lett 5 .bit (.cmp .leq (.lit 0) (.var 4))
 (.lett 6 .bit (.cmp .lss (.var 4) (.lit 6))
 (.nz (.var 5)
 (.nz (.var 6)
 (.lett 7 (.int .u64) (.sel (.var 4) [.limb 0 0,.limb 0 1,.limb 0 2,.limb 0 3,.limb 0 4,.limb 0 5])
 (.lett 8 (.int .i64) (.bin .and .i64 (.var 1) (.lit 63))
 (.lett 9 .bit (.cmp .leq (.lit 0) (.var 8))
 (.lett 10 (.int .u64) (.bin .shr .u64 (.var 7) (.var 8))
 (.nz (.var 9)
 (.lett 11 (.int .u64) (.bin .and .u64 (.var 10) (.lit 1))
 (.lett 12 (.int .i64) (.conv .i64 (.var 11))
 (.ret [.var 12])))))))))))))))))
theorem bit_q {i q r v9 v5 v6:Int} (hi:0<=i/\i<384) (hq:q=binE .shr .i64 i 6) (h5:v5=b2i (cmpE .leq 0 q)) (h6:v6=b2i (cmpE .lss q 6)):v5≠0/\v6≠0:=by
 have q':=shr_d 64 hq rfl (by decide)
 exact ⟨bit_nz h5 (by omega),lt_nz h6 (by omega)⟩
theorem and63 {i r:Int} (hi:0<=i/\i<384) (hr:r=binE .and .i64 i 63):r=i%64:=by
 obtain ⟨n,hn⟩:=Int.eq_ofNat_of_zero_le hi.1
 have hlt:n<2^64:=by omega
 rw [hr]
 show wr .i64 ((BitVec.ofInt 64 i &&& BitVec.ofInt 64 63).toNat:Int)=_
 rw [hn,show (63:Int)=((63:Nat):Int) from rfl,BitVec.ofInt_natCast,BitVec.ofInt_natCast,BitVec.toNat_and,BitVec.toNat_ofNat,BitVec.toNat_ofNat,Nat.mod_eq_of_lt hlt,show 63%2^64=2^6-1 from rfl,Nat.and_two_pow_sub_one_eq_mod]
 simp only [wr];omega
theorem law_bit (f:FuncId) (e:Nat->Int) (hk:kkHas [.num,.int .i64] [e 0,e 1]):tBit.says [] ⟨fun ys=>ys=(kBit f).sem [e 0,e 1],[]⟩ e:=by
 have hx:=hk.1
 simp only [tBit,kBit,Tree.says,List.getElem?_cons_zero,List.getElem?_cons_succ,List.map,ev_lit,ev_var,ev_limb,D.ev,List.getD_cons_zero,List.getD_cons_succ]
 intro a2 _
 have b2:=c_lt a2
 refine ⟨fun n=>by rw [if_neg (by omega)],fun n2=>?_⟩
 intro a3 _
 have b3:=c_ge a3
 refine ⟨fun n=>by rw [if_neg (by omega)],fun n3=>?_⟩
 intro a4 _ a5 _ a6 _
 have hi:0<=e 1/\e 1<384:=by omega
 obtain ⟨g1,g2⟩:=bit_q (r:=0) (v9:=0) hi a4 a5 a6
 have h4:=shr_d 64 a4 rfl (by decide)
 refine ⟨g1,g2,fun a7 _ a8 _ a9 _ a10 _=>?_⟩
 have h8:=and63 hi a8
 refine ⟨bit_nz a9 (by rw [h8];exact Int.emod_nonneg _ (by decide)),fun a11 _ a12 _=>?_⟩
 rw [if_pos hi,bit_fin (e:=e) hi hx h4 a7 h8 a10 a11 a12]
theorem or_dis {k:Nat} {v a b q:Int} (h:v=binE .or .u64 a b) (ha:a=q*(2^k:Nat)) (hq:0<=q) (hb:0<=b/\b<(2^k:Nat)) (hab:a+b<18446744073709551616):v=a+b:=by
 obtain ⟨n,hn⟩:=Int.eq_ofNat_of_zero_le hq
 obtain ⟨m,hm⟩:=Int.eq_ofNat_of_zero_le hb.1
 have ha':a=((2^k*n:Nat):Int):=by rw [ha,hn,Nat.mul_comm];simp
 have hlt:2^k*n+m<2^64:=by rw [ha',hm] at hab;omega
 rw [h]
 show wr .u64 ((BitVec.ofInt 64 a ||| BitVec.ofInt 64 b).toNat:Int)=_
 rw [ha',hm,BitVec.ofInt_natCast,BitVec.ofInt_natCast,BitVec.toNat_or,BitVec.toNat_ofNat,BitVec.toNat_ofNat,Nat.mod_eq_of_lt (by omega),Nat.mod_eq_of_lt (by omega),<- Nat.two_pow_add_eq_or_of_lt (by rw [hm] at hb;omega)]
 simp only [wr];omega
theorem or_1 {v s r lj lp:Int} (h:v=binE .or .u64 s r) (hs:s=binE .shl .u64 lj 1) (hr:r=binE .shr .u64 lp 63) (uj:U lj) (up:U lp):v=2*lj%18446744073709551616+lp/9223372036854775808:=by
 have h1:=shl_d 2 hs rfl
 have h2:=shr_d 9223372036854775808 hr (by decide) (by decide)
 unfold U at *
 simp only [wr] at h1
 rw [or_dis (k:=1) (q:=lj%9223372036854775808) h (by omega) (by omega) (by omega) (by omega)]
 omega
theorem or_63 {v s r ln lj:Int} (h:v=binE .or .u64 s r) (hs:s=binE .shl .u64 ln 63) (hr:r=binE .shr .u64 lj 1) (un:U ln) (uj:U lj):v=ln%2*9223372036854775808+lj/2:=by
 have h1:=shl_d 9223372036854775808 hs (by decide)
 have h2:=shr_d 2 hr rfl (by decide)
 unfold U at *
 simp only [wr] at h1
 rw [or_dis (k:=63) (q:=ln%2) h (by omega) (by omega) (by omega) (by omega)]
 omega
theorem or_0 {v r lj:Int} (h:v=binE .or .u64 0 r) (hr:r=binE .shr .u64 lj 1) (uj:U lj):v=lj/2:=by
 have h2:=shr_d 2 hr rfl (by decide)
 unfold U at *
 rw [or_dis (k:=63) (q:=0) h (by omega) (by omega) (by omega) (by omega)]
 omega
theorem and_1 {v x:Int} (h:v=binE .and .u64 x 1) (hx:U x):v=x%2:=by rw [h];exact and_mask x 1 (by omega) hx
set_option maxRecDepth 100000
theorem mOk.odd {n low:Int} (h:mOk n low):n%2=1:=odd_of h.1
theorem mOk.low_ne {n low:Int} (h:mOk n low):low≠0:=fun h0=>by have:=h.1;rw [h0] at this;simp at this
theorem mOk.lt {n low:Int} (h:mOk n low):2*n<N384:=by have:=h.2.2;rw [p382] at this;unfold N384;omega
theorem RR {n:Int} (h:n%2=1):∃ z,wideOf n*half2 n^384*half2 n^384=1+n*z:=by
 obtain ⟨z,hz⟩:=half_R h
 obtain ⟨y,hy⟩:=md_of (x:=(2:Int)^768) (n:=n)
 refine ⟨?_,?_⟩
 ·exact 2*z+n*z*z+y*(half2 n^384*half2 n^384)
 ·unfold wideOf
  rw [hy,show (2:Int)^768=N384*N384 by decide +kernel]
  generalize half2 n^384=I at *
  generalize N384=R at *
  have:(R*I)*(R*I)=(1+n*z)*(1+n*z):=by rw [hz]
  grind
theorem RR1 {n:Int} (h:n%2=1):∃ z,wideOf n*half2 n^384=N384+n*z:=by
 obtain ⟨z,hz⟩:=half_R h
 obtain ⟨y,hy⟩:=md_of (x:=(2:Int)^768) (n:=n)
 refine ⟨?_,?_⟩
 ·exact N384*z+y*half2 n^384
 ·unfold wideOf
  rw [hy,show (2:Int)^768=N384*N384 by decide +kernel]
  generalize half2 n^384=I at *
  generalize N384=R at *
  have:R*(R*I)=R*(1+n*z):=by rw [hz]
  grind
theorem mont_mul {n a b:Int} (h:n%2=1):montv n (montv n a (wideOf n)) b=a*b%n:=by
 obtain ⟨z,hz⟩:=RR h
 obtain ⟨y,hy⟩:=md_of (x:=a*wideOf n*half2 n^384) (n:=n)
 show (a*wideOf n*half2 n^384%n)*b*half2 n^384%n=_
 rw [hy]
 refine md (a*b*z+y*b*half2 n^384) ?_
 generalize half2 n^384=I at *
 generalize wideOf n=w at *
 have:a*b*(w*I*I)=a*b*(1+n*z):=by rw [hz]
 grind
theorem mont_out {n a:Int} (h:n%2=1):montv n (montv n a (wideOf n)) 1=a%n:=by rw [mont_mul h,Int.mul_one]
theorem montv_lt {n a b:Int} (h:0<n):0<=montv n a b/\montv n a b<n:=md_lt h
theorem wide_lt {n:Int} (h:0<n):0<=wideOf n/\wideOf n<n:=md_lt h
def tOf:Tree:=(.lett 1 .num (.join [.var 0,.lit 0,.lit 0,.lit 0,.lit 0,.lit 0])
(.ret [.var 1]))
theorem law_of (f:FuncId) (e:Nat->Int) (hk:kkHas [.int .u64] [e 0]):tOf.says [] ⟨fun ys=>ys=(kOf f).sem [e 0],[]⟩ e:=by
 simp only [tOf,kOf,Tree.says,List.getElem?_cons_zero,List.getElem?_cons_succ,List.map,ev_lit,ev_var,ev_limb,D.ev,List.getD_cons_zero,List.getD_cons_succ]
 intro a _
 rw [a];simp [joinE]
def tReduce:Tree:=(.lett 4 .bit (.cmp .eql (.var 1) (.lit 0))
(.split 4
(.ret [.lit 0])
(.req 0 [.var 3,.var 0]
(.lett 245 (.int .i64) (.app 0 0 [.var 3,.var 0])
(.lett 293 .bit (.cmp .lss (.var 245) (.lit 0))
(.split 293
 (.ret [.var 3])
 (.req 1 [.var 0,.var 1,.var 2,.var 3,.var 2]
 (.lett 677 .num (.app 1 0 [.var 0,.var 1,.var 2,.var 3,.var 2])
 (.req 2 [.lit 1]
 (.lett 725 .num (.app 2 0 [.lit 1])
 (.req 1 [.var 0,.var 1,.var 2,.var 677,.var 725]
 (.lett 773 .num (.app 1 0 [.var 0,.var 1,.var 2,.var 677,.var 725])
 (.ret [.var 773])))))))))))))
theorem law_reduce (f1 f2 f3 f:FuncId) (e:Nat->Int) (hk:kkHas [.num,.int .u64,.num,.num] [e 0,e 1,e 2,e 3]) (hp:(kReduce f).pre [e 0,e 1,e 2,e 3]):tReduce.says [kWCmp f1,kMont f2,kOf f3] ⟨fun ys=>ys=(kReduce f).sem [e 0,e 1,e 2,e 3],[]⟩ e:=by
 obtain ⟨h0,h1,h2,h3,_⟩:=hk
 obtain ⟨hm,hw⟩:=hp
 have hn:=hm.2.1
 simp only [KK.has] at h3
 simp only [tReduce,kReduce,kWCmp,kMont,kOf,Tree.says,List.getElem?_cons_zero,List.getElem?_cons_succ,List.map,ev_lit,ev_var,ev_limb,D.ev,List.getD_cons_zero,List.getD_cons_succ]
 intro a _
 have b:=c_eq a
 have:=hm.low_ne
 refine ⟨fun n=>by omega,fun n=>⟨trivial,fun a1 _ a2 _=>?_⟩⟩
 have b2:=c_lt a2
 refine ⟨fun n=>?_,fun n=>?_⟩
 ·have:e 3<e 0:=by
   by_cases hc:e 3<e 0
   ·exact hc
   ·rw [if_neg hc] at a1;split at a1 <;> omega
  rw [Int.emod_eq_of_lt h3.1 this]
 ·have hwl:=wide_lt (n:=e 0) (by omega)
  refine ⟨⟨hm,.inr (by rw [hw];exact hwl.2)⟩,fun a3 _=>⟨trivial,fun a4 _=>⟨⟨hm,.inl (by rw [a3];exact (montv_lt (by omega)).2)⟩,fun a5 _=>?_⟩⟩⟩
  rw [a5,a4,a3,hw,mont_out hm.odd]
theorem cong2 {n a b:Int}:(a%n+b%n)%n=(a+b)%n:=by rw [Int.add_emod_emod,Int.emod_add_emod]
theorem cong3 {n a b:Int}:(a%n-b%n)%n=(a-b)%n:=by rw [Int.sub_emod_emod,Int.emod_sub_emod]
def tMAdd:Tree:=(.lett 5 .bit (.cmp .eql (.var 1) (.lit 0))
(.split 5
(.ret [.lit 0])
(.req 0 [.var 0,.var 1,.var 2,.var 3]
(.lett 102 .num (.app 0 0 [.var 0,.var 1,.var 2,.var 3])
(.req 0 [.var 0,.var 1,.var 2,.var 4]
(.lett 246 .num (.app 0 0 [.var 0,.var 1,.var 2,.var 4])
(.req 1 [.var 102,.var 246]
(.lett 294 .num (.app 1 0 [.var 102,.var 246])
(.lett 295 .bit (.app 1 1 [.var 102,.var 246])
(.req 2 [.var 0,.var 1,.var 2,.var 294]
(.lett 630 .num (.app 2 0 [.var 0,.var 1,.var 2,.var 294])
(.ret [.var 630]))))))))))))
theorem law_mAdd (f1 f2 f3 f:FuncId) (e:Nat->Int) (hk:kkHas [.num,.int .u64,.num,.num,.num] [e 0,e 1,e 2,e 3,e 4]) (hp:(kMAdd f).pre [e 0,e 1,e 2,e 3,e 4]):tMAdd.says [kReduce f1,kWAdd f2,kLess f3] ⟨fun ys=>ys=(kMAdd f).sem [e 0,e 1,e 2,e 3,e 4],[]⟩ e:=by
 obtain ⟨hm,hw⟩:=hp
 have hn:=hm.2.1
 have hl:=hm.lt
 simp only [tMAdd,kReduce,kWAdd,kLess,kMAdd,Tree.says,List.getElem?_cons_zero,List.getElem?_cons_succ,List.map,ev_lit,ev_var,ev_limb,D.ev,List.getD_cons_zero,List.getD_cons_succ]
 intro a _
 have b:=c_eq a
 have:=hm.low_ne
 refine ⟨fun n=>by omega,fun n=>⟨⟨hm,hw⟩,fun a1 _=>⟨⟨hm,hw⟩,fun a2 _=>⟨trivial,fun a3 _ a4 _=>⟨trivial,fun a5 _=>?_⟩⟩⟩⟩⟩
 have m1:=md_lt (x:=e 3) (n:=e 0) (by omega)
 have m2:=md_lt (x:=e 4) (n:=e 0) (by omega)
 rw [<- a1] at m1
 rw [<- a2] at m2
 rw [Int.emod_eq_of_lt (by omega) (by omega)] at a3
 rw [a5,<- cong2,<- a1,<- a2,<- a3]
 congr 1
 split
 ·exact (md_eq 1 (by omega) (by omega) (by omega)).symm
 ·exact (Int.emod_eq_of_lt (by omega) (by omega)).symm
def tMSub:Tree:=(.lett 5 .bit (.cmp .eql (.var 1) (.lit 0))
(.split 5
(.ret [.lit 0])
(.req 0 [.var 0,.var 1,.var 2,.var 3]
(.lett 102 .num (.app 0 0 [.var 0,.var 1,.var 2,.var 3])
(.req 0 [.var 0,.var 1,.var 2,.var 4]
(.lett 246 .num (.app 0 0 [.var 0,.var 1,.var 2,.var 4])
(.req 1 [.var 102,.var 246]
(.lett 294 .num (.app 1 0 [.var 102,.var 246])
(.lett 295 .bit (.app 1 1 [.var 102,.var 246])
(.split 295
 (.req 2 [.var 294,.var 0]
 (.lett 870 .num (.app 2 0 [.var 294,.var 0])
 (.lett 871 .bit (.app 2 1 [.var 294,.var 0])
 (.ret [.var 870]))))
 (.ret [.var 294])))))))))))
theorem law_mSub (f1 f2 f3 f:FuncId) (e:Nat->Int) (hk:kkHas [.num,.int .u64,.num,.num,.num] [e 0,e 1,e 2,e 3,e 4]) (hp:(kMSub f).pre [e 0,e 1,e 2,e 3,e 4]):tMSub.says [kReduce f1,kWSub f2,kWAdd f3] ⟨fun ys=>ys=(kMSub f).sem [e 0,e 1,e 2,e 3,e 4],[]⟩ e:=by
 obtain ⟨hm,hw⟩:=hp
 have hn:=hm.2.1
 have hl:=hm.lt
 simp only [tMSub,kReduce,kWSub,kWAdd,kMSub,Tree.says,List.getElem?_cons_zero,List.getElem?_cons_succ,List.map,ev_lit,ev_var,ev_limb,D.ev,List.getD_cons_zero,List.getD_cons_succ]
 intro a _
 have b:=c_eq a
 have:=hm.low_ne
 refine ⟨fun n=>by omega,fun n=>⟨⟨hm,hw⟩,fun a1 _=>⟨⟨hm,hw⟩,fun a2 _=>⟨trivial,fun a3 _ a4 _=>?_⟩⟩⟩⟩
 have m1:=md_lt (x:=e 3) (n:=e 0) (by omega)
 have m2:=md_lt (x:=e 4) (n:=e 0) (by omega)
 rw [<- a1] at m1
 rw [<- a2] at m2
 simp only [bi] at a4
 have hN:(0:Int)<N384:=by unfold N384;omega
 refine ⟨fun hs=>⟨trivial,fun a5 _ a6 _=>?_⟩,fun hs=>?_⟩
 ·have hc:e 102<e 246:=by
   by_cases hc:e 102<e 246
   ·exact hc
   ·rw [if_neg hc] at a4;omega
  have h3:e 294=e 102-e 246+N384:=by
   rw [a3];exact md_eq (-1) (by omega) (by omega) (by omega)
  rw [a5,<- cong3,<- a1,<- a2]
  congr 1
  rw [h3,show e 102-e 246+N384+e 0=e 102-e 246+e 0+N384*1 by omega,Int.add_mul_emod_self_left,Int.emod_eq_of_lt (by omega) (by omega)]
  exact (md_eq (-1) (by omega) (by omega) (by omega)).symm
 ·have hc:¬ e 102<e 246:=fun hc=>by rw [if_pos hc] at a4;omega
  have h3:e 294=e 102-e 246:=by rw [a3];exact Int.emod_eq_of_lt (by omega) (by omega)
  rw [h3,<- cong3,<- a1,<- a2]
  congr 1
  exact (Int.emod_eq_of_lt (by omega) (by omega)).symm
def tMMul:Tree:=(.lett 5 .bit (.cmp .eql (.var 1) (.lit 0))
(.split 5
(.ret [.lit 0])
(.req 0 [.var 0,.var 1,.var 2,.var 3,.var 2]
(.lett 342 .num (.app 0 0 [.var 0,.var 1,.var 2,.var 3,.var 2])
(.req 0 [.var 0,.var 1,.var 2,.var 342,.var 4]
(.lett 438 .num (.app 0 0 [.var 0,.var 1,.var 2,.var 342,.var 4])
(.ret [.var 438])))))))
theorem law_mMul (f1 f:FuncId) (e:Nat->Int) (hk:kkHas [.num,.int .u64,.num,.num,.num] [e 0,e 1,e 2,e 3,e 4]) (hp:(kMMul f).pre [e 0,e 1,e 2,e 3,e 4]):tMMul.says [kMont f1] ⟨fun ys=>ys=(kMMul f).sem [e 0,e 1,e 2,e 3,e 4],[]⟩ e:=by
 obtain ⟨hm,hw⟩:=hp
 have hn:=hm.2.1
 have hwl:=wide_lt (n:=e 0) (by omega)
 simp only [tMMul,kMont,kMMul,Tree.says,List.getElem?_cons_zero,List.getElem?_cons_succ,List.map,ev_lit,ev_var,ev_limb,D.ev,List.getD_cons_zero,List.getD_cons_succ]
 intro a _
 have b:=c_eq a
 have:=hm.low_ne
 refine ⟨fun n=>by omega,fun n=>⟨⟨hm,.inr (by rw [hw];exact hwl.2)⟩,fun a1 _=>⟨⟨hm,.inl (by rw [a1];exact (montv_lt (by omega)).2)⟩,fun a2 _=>?_⟩⟩⟩
 rw [a2,a1,hw,mont_mul hm.odd]
def tMNeg:Tree:=(.req 0 [.var 0,.var 1,.var 2,.lit 0,.var 3]
(.lett 4 .num (.app 0 0 [.var 0,.var 1,.var 2,.lit 0,.var 3])
(.ret [.var 4])))
theorem law_mNeg (f1 f:FuncId) (e:Nat->Int) (hk:kkHas [.num,.int .u64,.num,.num] [e 0,e 1,e 2,e 3]) (hp:(kMNeg f).pre [e 0,e 1,e 2,e 3]):tMNeg.says [kMSub f1] ⟨fun ys=>ys=(kMNeg f).sem [e 0,e 1,e 2,e 3],[]⟩ e:=by
 simp only [tMNeg,kMSub,kMNeg,Tree.says,List.getElem?_cons_zero,List.getElem?_cons_succ,List.map,ev_lit,ev_var,ev_limb,D.ev,List.getD_cons_zero,List.getD_cons_succ]
 refine ⟨hp,fun a _=>?_⟩
 rw [a,Int.zero_sub]
def tHalf:Tree:=(.lett 4 (.int .u64) (.bin .and .u64 (.limb 3 0) (.lit 1))
(.lett 5 .bit (.cmp .eql (.var 4) (.lit 1))
(.split 5
(.req 0 [.var 3,.var 0]
(.lett 246 .num (.app 0 0 [.var 3,.var 0])
(.lett 247 .bit (.app 0 1 [.var 3,.var 0])
(.lett 486 (.int .u64) (.bin .shl .u64 (.limb 246 1) (.lit 63))
(.lett 871 (.int .u64) (.bin .shr .u64 (.limb 246 0) (.lit 1))
(.lett 919 (.int .u64) (.bin .or .u64 (.var 486) (.var 871))
(.lett 1063 (.int .u64) (.bin .shl .u64 (.limb 246 2) (.lit 63))
(.lett 1448 (.int .u64) (.bin .shr .u64 (.limb 246 1) (.lit 1))
(.lett 1496 (.int .u64) (.bin .or .u64 (.var 1063) (.var 1448))
(.lett 1640 (.int .u64) (.bin .shl .u64 (.limb 246 3) (.lit 63))
(.lett 2025 (.int .u64) (.bin .shr .u64 (.limb 246 2) (.lit 1))
(.lett 2073 (.int .u64) (.bin .or .u64 (.var 1640) (.var 2025))
(.lett 2217 (.int .u64) (.bin .shl .u64 (.limb 246 4) (.lit 63))
(.lett 2602 (.int .u64) (.bin .shr .u64 (.limb 246 3) (.lit 1))
(.lett 2650 (.int .u64) (.bin .or .u64 (.var 2217) (.var 2602))
(.lett 2794 (.int .u64) (.bin .shl .u64 (.limb 246 5) (.lit 63))
(.lett 3179 (.int .u64) (.bin .shr .u64 (.limb 246 4) (.lit 1))
(.lett 3227 (.int .u64) (.bin .or .u64 (.var 2794) (.var 3179))
(.lett 3755 (.int .u64) (.bin .shr .u64 (.limb 246 5) (.lit 1))
(.lett 3803 (.int .u64) (.bin .or .u64 (.lit 0) (.var 3755))
(.lett 3947 .num (.join [.var 919,.var 1496,.var 2073,.var 2650,.var 3227,.var 3803])
(.ret [.var 3947]))))))))))))))))))))))
(.lett 6 (.int .u64) (.bin .shl .u64 (.limb 3 1) (.lit 63))
(.lett 391 (.int .u64) (.bin .shr .u64 (.limb 3 0) (.lit 1))
(.lett 439 (.int .u64) (.bin .or .u64 (.var 6) (.var 391))
(.lett 583 (.int .u64) (.bin .shl .u64 (.limb 3 2) (.lit 63))
(.lett 968 (.int .u64) (.bin .shr .u64 (.limb 3 1) (.lit 1))
(.lett 1016 (.int .u64) (.bin .or .u64 (.var 583) (.var 968))
(.lett 1160 (.int .u64) (.bin .shl .u64 (.limb 3 3) (.lit 63))
(.lett 1545 (.int .u64) (.bin .shr .u64 (.limb 3 2) (.lit 1))
(.lett 1593 (.int .u64) (.bin .or .u64 (.var 1160) (.var 1545))
(.lett 1737 (.int .u64) (.bin .shl .u64 (.limb 3 4) (.lit 63))
(.lett 2122 (.int .u64) (.bin .shr .u64 (.limb 3 3) (.lit 1))
(.lett 2170 (.int .u64) (.bin .or .u64 (.var 1737) (.var 2122))
(.lett 2314 (.int .u64) (.bin .shl .u64 (.limb 3 5) (.lit 63))
(.lett 2699 (.int .u64) (.bin .shr .u64 (.limb 3 4) (.lit 1))
(.lett 2747 (.int .u64) (.bin .or .u64 (.var 2314) (.var 2699))
(.lett 3275 (.int .u64) (.bin .shr .u64 (.limb 3 5) (.lit 1))
(.lett 3323 (.int .u64) (.bin .or .u64 (.lit 0) (.var 3275))
(.lett 3467 .num (.join [.var 439,.var 1016,.var 1593,.var 2170,.var 2747,.var 3323])
(.ret [.var 3467]))))))))))))))))))))))
theorem half_join {x o0 o1 o2 o3 o4 o5:Int} (hx:0<=x/\x<N384) (h0:o0=lim x 1%2*9223372036854775808+lim x 0/2) (h1:o1=lim x 2%2*9223372036854775808+lim x 1/2) (h2:o2=lim x 3%2*9223372036854775808+lim x 2/2)
  (h3:o3=lim x 4%2*9223372036854775808+lim x 3/2) (h4:o4=lim x 5%2*9223372036854775808+lim x 4/2) (h5:o5=lim x 5/2):joinE [o0,o1,o2,o3,o4,o5]=x/2:=by
 have ex:=lim_eq hx
 have l0:=lim_lt x 0
 have l1:=lim_lt x 1
 have l2:=lim_lt x 2
 have l3:=lim_lt x 3
 have l4:=lim_lt x 4
 have l5:=lim_lt x 5
 rw [joinE6]
 generalize lim x 0=x0 at *
 generalize lim x 1=x1 at *
 generalize lim x 2=x2 at *
 generalize lim x 3=x3 at *
 generalize lim x 4=x4 at *
 generalize lim x 5=x5 at *
 omega
theorem half_md {n a h:Int} (hn:n%2=1) (h0:0<=h/\h<n) (hh:2*h=a∨2*h=a+n):h=a*half2 n%n:=by
 have e2:2*half2 n=n+1:=by unfold half2;omega
 symm
 generalize half2 n=i at *
 rcases hh with hh | hh
 ·have e3:2*i*h=(n+1)*h:=by rw [e2]
  have e4:a*i=h+n*h:=by rw [<- hh];grind
  exact md_eq h e4 h0.1 h0.2
 ·have e3:2*i*h=(n+1)*h:=by rw [e2]
  have e4:a*i=h+n*(h-i):=by
   have h1:a=2*h-n:=by omega
   rw [h1];grind
  exact md_eq (h-i) e4 h0.1 h0.2
theorem law_half (f1 f:FuncId) (e:Nat->Int) (hk:kkHas [.num,.int .u64,.num,.num] [e 0,e 1,e 2,e 3]) (hp:(kHalf f).pre [e 0,e 1,e 2,e 3]):tHalf.says [kWAdd f1] ⟨fun ys=>ys=(kHalf f).sem [e 0,e 1,e 2,e 3],[]⟩ e:=by
 obtain ⟨⟨hm,hw⟩,ha⟩:=hp
 have hn:=hm.2.1
 have hl:=hm.lt
 have h3:=hk.2.2.2.1
 have ho:=hm.odd
 have e30:lim (e 3) 0=e 3%18446744073709551616:=lim_0 _
 have z:=U_lim e
 simp only [KK.has] at h3
 simp only [tHalf,kWAdd,kHalf,Tree.says,List.getElem?_cons_zero,List.getElem?_cons_succ,List.map,ev_lit,ev_var,ev_limb,D.ev,List.getD_cons_zero,List.getD_cons_succ]
 intro a4 _ a5 _
 have b4:=and_1 a4 (z 3 0)
 have b5:=c_eq a5
 refine ⟨fun hs=>⟨trivial,?_⟩,fun hs=>?_⟩
 ·intro a6 k6 a7 _ s1 _ r1 _ o1 _ s2 _ r2 _ o2 _ s3 _ r3 _ o3 _ s4 _ r4 _ o4 _ s5 _ r5 _ o5 _ r6 _ o6 _ aj _
  rw [Int.emod_eq_of_lt (by omega) (by omega)] at a6
  have hj:=half_join k6 (or_63 o1 s1 r1 (z _ _) (z _ _)) (or_63 o2 s2 r2 (z _ _) (z _ _)) (or_63 o3 s3 r3 (z _ _) (z _ _)) (or_63 o4 s4 r4 (z _ _) (z _ _)) (or_63 o5 s5 r5 (z _ _) (z _ _)) (or_0 o6 r6 (z _ _))
  rw [<- aj] at hj
  clear aj s1 r1 o1 s2 r2 o2 s3 r3 o3 s4 r4 o4 s5 r5 o5 r6 o6 a4 a5 z k6
  have:e 3947=e 3*half2 (e 0)%e 0:=half_md ho (by omega) (.inr (by omega))
  rw [this]
 ·intro s1 _ r1 _ o1 _ s2 _ r2 _ o2 _ s3 _ r3 _ o3 _ s4 _ r4 _ o4 _ s5 _ r5 _ o5 _ r6 _ o6 _ aj _
  have hj:=half_join h3 (or_63 o1 s1 r1 (z _ _) (z _ _)) (or_63 o2 s2 r2 (z _ _) (z _ _)) (or_63 o3 s3 r3 (z _ _) (z _ _)) (or_63 o4 s4 r4 (z _ _) (z _ _)) (or_63 o5 s5 r5 (z _ _) (z _ _)) (or_0 o6 r6 (z _ _))
  rw [<- aj] at hj
  clear aj s1 r1 o1 s2 r2 o2 s3 r3 o3 s4 r4 o4 s5 r5 o5 r6 o6 a4 a5 z
  have:e 3467=e 3*half2 (e 0)%e 0:=half_md ho (by omega) (.inl (by omega))
  rw [this]
end Go.Sx
namespace Np
def isP (p:Nat):Prop:=2<=p/\∀ d,d∣p->d=1∨d=p
theorem cop {p a:Nat} (hp:isP p) (h:¬ p∣a):Nat.Coprime p a:=by
 rcases hp.2 _ (Nat.gcd_dvd_left p a) with h1 | h1
 ·exact h1
 ·exact absurd (h1▸Nat.gcd_dvd_right p a) h
theorem euclid {p a b:Nat} (hp:isP p) (h:p∣a*b):p∣a∨p∣b:=by
 by_cases ha:p∣a
 ·exact .inl ha
 ·exact .inr ((cop hp ha).dvd_of_dvd_mul_left h)
def ch:Nat->Nat->Nat
 | _,0=>1
 | 0,_+1=>0
 | n+1,k+1=>ch n k+ch n (k+1)
theorem ch_0 (n:Nat):ch n 0=1:=by cases n <;> rfl
theorem ch_absorb:∀ n k:Nat,(k+1)*ch (n+1) (k+1)=(n+1)*ch n k
 | 0,0=>rfl
 | 0,k+1=>by simp [ch]
 | n+1,0=>by
  have:=ch_absorb n 0
  simp only [ch_0] at this
  show (0+1)*(ch (n+1) 0+ch (n+1) (0+1))=(n+1+1)*ch (n+1) 0
  simp only [ch_0];omega
 | n+1,k+1=>by
  have h1:=ch_absorb n k
  have h2:=ch_absorb n (k+1)
  show (k+1+1)*(ch (n+1) (k+1)+ch (n+1) (k+1+1))=(n+1+1)*ch (n+1) (k+1)
  have h3:ch (n+1) (k+1)=ch n k+ch n (k+1):=rfl
  rw [Nat.mul_add,h2,Nat.add_mul (k+1) 1,h1]
  have h4:(n+1)*ch n k+(n+1)*ch n (k+1)=(n+1)*ch (n+1) (k+1):=by rw [<- Nat.mul_add,h3]
  have h5:(n+1+1)*ch (n+1) (k+1)=(n+1)*ch (n+1) (k+1)+ch (n+1) (k+1):=by rw [Nat.add_mul (n+1) 1,Nat.one_mul]
  omega
theorem ch_gt:∀ n k:Nat,n<k->ch n k=0
 | 0,k+1,_=>rfl
 | n+1,k+1,h=>by
  show ch n k+ch n (k+1)=0
  rw [ch_gt n k (by omega),ch_gt n (k+1) (by omega)]
theorem ch_self:∀ n:Nat,ch n n=1
 | 0=>rfl
 | n+1=>by
  show ch n n+ch n (n+1)=1
  rw [ch_self n,ch_gt n (n+1) (by omega)]
def bs (x n:Nat):Nat->Nat
 | 0=>0
 | m+1=>bs x n m+ch n m*x^m
theorem bs_step (x n:Nat):∀ m,bs x (n+1) (m+1)=bs x n (m+1)+x*bs x n m
 | 0=>by simp [bs,ch_0]
 | m+1=>by
  have h:=bs_step x n m
  have h3:ch (n+1) (m+1)=ch n m+ch n (m+1):=rfl
  show bs x (n+1) (m+1)+ch (n+1) (m+1)*x^(m+1)=bs x n (m+1)+ch n (m+1)*x^(m+1)+x*(bs x n m+ch n m*x^m)
  rw [h,h3,Nat.add_mul,Nat.mul_add,show x*(ch n m*x^m)=ch n m*x^(m+1) by rw [Nat.pow_succ,Nat.mul_left_comm,Nat.mul_comm x]]
  omega
theorem binom (x:Nat):∀ n,(x+1)^n=bs x n (n+1)
 | 0=>by simp [bs,ch_0]
 | n+1=>by
  have h:bs x n (n+2)=bs x n (n+1):=by show bs x n (n+1)+ch n (n+1)*x^(n+1)=_;rw [ch_gt n (n+1) (by omega)];simp
  rw [bs_step,h,<- binom x n,Nat.pow_succ,Nat.mul_add,Nat.mul_one,Nat.mul_comm x]
  omega
theorem dvd_ch {p k:Nat} (hp:isP p) (h0:0<k) (h1:k<p):p∣ch p k:=by
 obtain ⟨n,rfl⟩:∃ n,p=n+1:=⟨p-1,by have:=hp.1;omega⟩
 obtain ⟨j,rfl⟩:∃ j,k=j+1:=⟨k-1,by omega⟩
 have h:=ch_absorb n j
 have:n+1∣(j+1)*ch (n+1) (j+1):=⟨ch n j,h⟩
 rcases euclid hp this with h2 | h2
 ·exact absurd (Nat.le_of_dvd (by omega) h2) (by omega)
 ·exact h2
theorem bs_mod {p:Nat} (hp:isP p) (x:Nat):∀ m,m+1<=p->bs x p (m+1)%p=1%p
 | 0,_=>by simp [bs,ch_0]
 | m+1,h=>by
  show (bs x p (m+1)+ch p (m+1)*x^(m+1))%p=1%p
  obtain ⟨c,hc⟩:=dvd_ch hp (show 0<m+1 by omega) (by omega)
  rw [hc,Nat.mul_assoc,Nat.add_mul_mod_self_left]
  exact bs_mod hp x m (by omega)
theorem dream {p:Nat} (hp:isP p) (x:Nat):(x+1)^p%p=(x^p+1)%p:=by
 rw [binom]
 show (bs x p p+ch p p*x^p)%p=_
 rw [ch_self,Nat.one_mul]
 obtain ⟨n,hn⟩:∃ n,p=n+1:=⟨p-1,by have:=hp.1;omega⟩
 have h:=bs_mod hp x n (by omega)
 rw [<- hn] at h
 rw [Nat.add_comm,Nat.add_mod,h,<- Nat.add_mod]
theorem fermat0 {p:Nat} (hp:isP p):∀ x,x^p%p=x%p
 | 0=>by rw [Nat.zero_pow (by have:=hp.1;omega)]
 | x+1=>by rw [dream hp,Nat.add_mod,fermat0 hp x,<- Nat.add_mod]
theorem fermat {p x:Nat} (hp:isP p) (hx:¬ p∣x):x^(p-1)%p=1:=by
 have h2:=hp.1
 obtain ⟨n,hn⟩:∃ n,p=n+1:=⟨p-1,by omega⟩
 have h:=fermat0 hp x
 have h0:0<x:=Nat.pos_of_ne_zero fun h=>hx (h▸Nat.dvd_zero p)
 have hle:1<=x^(p-1):=Nat.pow_pos h0
 have hs:p∣x^p-x:=Nat.dvd_of_mod_eq_zero (Nat.sub_mod_eq_zero_of_mod_eq h)
 have he:x^p-x=x*(x^(p-1)-1):=by
  rw [Nat.mul_sub,Nat.mul_one,show x*x^(p-1)=x^p by rw [<- Nat.pow_succ'];congr 1;omega]
 rw [he] at hs
 rcases euclid hp hs with h3 | h3
 ·exact absurd h3 hx
 ·obtain ⟨c,hc⟩:=h3
  rw [show x^(p-1)=1+p*c by omega,Nat.add_mul_mod_self_left,Nat.mod_eq_of_lt (by omega)]
theorem small {n k:Nat} (h2:2<=n) (hk:n<k*k) (h:∀ d,d<k->2<=d->n%d≠0):isP n:=by
 refine ⟨h2,fun d hd=>?_⟩
 obtain ⟨m,hm⟩:=hd
 by_cases h1:d=1
 ·exact .inl h1
 by_cases h3:m=1
 ·right;rw [hm,h3,Nat.mul_one]
 exfalso
 have hd0:d≠0:=fun h=>by rw [h,Nat.zero_mul] at hm;omega
 have hm0:m≠0:=fun h=>by rw [h,Nat.mul_zero] at hm;omega
 by_cases hdk:d<k
 ·exact h d hdk (by omega) (by rw [hm];exact Nat.mul_mod_right d m)
 ·have hmk:m<k:=by
   by_cases hc:m<k
   ·exact hc
   ·have:=Nat.mul_le_mul (show k<=d by omega) (show k<=m by omega);omega
  exact h m hmk (by omega) (by rw [hm];exact Nat.mul_mod_left d m)
theorem has_p:∀ N n:Nat,n<=N->2<=n->∃ q,isP q/\q∣n:=by
 intro N
 induction N with
 | zero=>intro n h1 h2;omega
 | succ N ih =>
  intro n h1 h2
  by_cases hp:isP n
  ·exact ⟨n,hp,Nat.dvd_refl n⟩
  ·have:∃ d,d∣n/\d≠1/\d≠n:=by
    apply Classical.byContradiction
    intro hc
    refine hp ⟨h2,fun d hd=>?_⟩
    by_cases h1:d=1
    ·exact .inl h1
    ·by_cases h3:d=n
     ·exact .inr h3
     ·exact absurd ⟨d,hd,h1,h3⟩ hc
   obtain ⟨d,hd,d1,d2⟩:=this
   have hle:=Nat.le_of_dvd (by omega) hd
   have hd0:d≠0:=fun h=>by subst h;obtain ⟨c,hc⟩:=hd;omega
   obtain ⟨q,hq,hqd⟩:=ih d (by omega) (by omega)
   exact ⟨q,hq,Nat.dvd_trans hqd hd⟩
theorem least {n:Nat} (h2:2<=n) (hp:¬ isP n):∃ q,isP q/\q∣n/\q*q<=n:=by
 have:∃ d,d∣n/\d≠1/\d≠n:=by
  apply Classical.byContradiction
  intro hc
  refine hp ⟨h2,fun d hd=>?_⟩
  by_cases h1:d=1
  ·exact .inl h1
  ·by_cases h3:d=n
   ·exact .inr h3
   ·exact absurd ⟨d,hd,h1,h3⟩ hc
 obtain ⟨d,⟨m,hm⟩,d1,d2⟩:=this
 have hd0:d≠0:=fun h=>by rw [h,Nat.zero_mul] at hm;omega
 have hm0:m≠0:=fun h=>by rw [h,Nat.mul_zero] at hm;omega
 have hm1:m≠1:=fun h=>by rw [h,Nat.mul_one] at hm;exact d2 hm.symm
 have go:∀ u v:Nat,u≠0->u≠1->u<=v->n=u*v->∃ q,isP q/\q∣n/\q*q<=n:=fun u v h0 h1 huv huvn=>by
  obtain ⟨q,hq,hqu⟩:=has_p u u (Nat.le_refl u) (by omega)
  have hle:=Nat.le_of_dvd (by omega) hqu
  exact ⟨q,hq,huvn▸Nat.dvd_trans hqu (Nat.dvd_mul_right u v),by rw [huvn];exact Nat.mul_le_mul hle (by omega)⟩
 by_cases hc:d<=m
 ·exact go d m hd0 d1 hc hm
 ·exact go m d hm0 hm1 (by omega) (by rw [hm,Nat.mul_comm])
theorem pow_one_mod {b l:Nat} (hl:2<=l) (h:b%l=1) (k:Nat):b^k%l=1:=by
 rw [Nat.pow_mod,h,Nat.one_pow,Nat.mod_eq_of_lt (by omega)]
theorem pow_gcd {a l:Nat} (hl:2<=l) (m n:Nat):a^m%l=1->a^n%l=1->a^(Nat.gcd m n)%l=1:=by
 induction m,n using Nat.gcd.induction with
 | H0 n=>intro _ h;rwa [Nat.gcd_zero_left]
 | H1 m n hm ih =>
  intro h1 h2
  rw [Nat.gcd_rec]
  refine ih ?_ h1
  have h3:=Nat.div_add_mod n m
  have h4:a^n%l=a^(n%m)%l:=by
   conv=>lhs;rw [<- h3,Nat.pow_add,Nat.pow_mul,Nat.mul_mod,pow_one_mod hl h1,Nat.one_mul,Nat.mod_mod]
  rw [<- h4];exact h2
theorem dpp {q d e:Nat} (hq:isP q) (h:d∣q^(e+1)):d=q^(e+1)∨d∣q^e:=by
 obtain ⟨m,hm⟩:=h
 have hq0:0<q:=by have:=hq.1;omega
 by_cases hqm:q∣m
 ·right
  obtain ⟨c,hc⟩:=hqm
  refine ⟨c,?_⟩
  have:q*q^e=q*(d*c):=by rw [<- Nat.pow_succ',hm,hc,Nat.mul_left_comm]
  exact Nat.eq_of_mul_eq_mul_left hq0 this
 ·left
  have h1:Nat.Coprime (q^(e+1)) m:=Nat.Coprime.pow_left _ (cop hq hqm)
  have h2:m∣q^(e+1):=⟨d,by rw [hm,Nat.mul_comm]⟩
  have h3:=Nat.Coprime.eq_one_of_dvd h1.symm h2
  rw [h3,Nat.mul_one] at hm
  exact hm.symm
theorem pock {n l q a e c:Nat} (hl:isP l) (hln:l∣n) (hq:isP q) (hn:n-1=q^(e+1)*c) (h1:a^(n-1)%n=1) (hg:Nat.gcd (a^(q^e*c)%n+(n-1)) n=1) (hn2:2<=n):q^(e+1)∣l-1:=by
 have hl2:=hl.1
 have m1:a^(n-1)%l=1:=by
  rw [<- Nat.mod_mod_of_dvd _ hln,h1,Nat.mod_eq_of_lt (by omega)]
 have hn0:n-1≠0:=by omega
 have hla:¬ l∣a:=fun h=>by
  have:l∣a^(n-1):=Nat.dvd_trans h ⟨a^(n-1-1),by rw [<- Nat.pow_succ'];congr 1;omega⟩
  rw [Nat.mod_eq_zero_of_dvd this] at m1;cases m1
 have f1:(a^c)^(l-1)%l=1:=by
  rw [<- Nat.pow_mul,Nat.mul_comm,Nat.pow_mul];exact pow_one_mod hl2 (fermat hl hla) c
 have f2:(a^c)^(q^(e+1))%l=1:=by rw [<- Nat.pow_mul,Nat.mul_comm,<- hn];exact m1
 have f3:=pow_gcd hl2 _ _ f2 f1
 rcases dpp hq (Nat.gcd_dvd_left (q^(e+1)) (l-1)) with h | h
 ·rw [<- h];exact Nat.gcd_dvd_right _ _
 ·exfalso
  obtain ⟨k,hk⟩:=h
  have f4:(a^c)^(q^e)%l=1:=by rw [hk,Nat.pow_mul];exact pow_one_mod hl2 f3 k
  rw [<- Nat.pow_mul,Nat.mul_comm] at f4
  have f5:a^(q^e*c)%n%l=1:=by rw [Nat.mod_mod_of_dvd _ hln];exact f4
  obtain ⟨t,ht⟩:=hln
  have f6:l∣a^(q^e*c)%n+(n-1):=by
   have h7:=Nat.div_add_mod (a^(q^e*c)%n) l
   rw [f5] at h7
   have ht0:t≠0:=fun h=>by rw [h,Nat.mul_zero] at ht;omega
   refine ⟨a^(q^e*c)%n/l+t,?_⟩
   rw [Nat.mul_add,<- ht]
   omega
  have:l∣1:=by rw [<- hg];exact Nat.dvd_gcd f6 ⟨t,ht⟩
  have:=Nat.le_of_dvd (by decide) this
  omega
theorem big {n F:Nat} (hn:2<=n) (hF:n<(F+1)*(F+1)) (h:∀ l,isP l->l∣n->F∣l-1):isP n:=by
 apply Classical.byContradiction
 intro hp
 obtain ⟨q,hq,hqn,hqq⟩:=least hn hp
 have h1:=hq.1
 have h2:=Nat.le_of_dvd (by omega) (h q hq hqn)
 have:=Nat.mul_le_mul (show F+1<=q by omega) (show F+1<=q by omega)
 omega
def pm (n:Nat):Nat->Nat->Nat->Nat
 | 0,_,_=>1%n
 | f+1,a,e=>if e=0 then 1%n else if e%2=1 then a*pm n f (a*a%n) (e/2)%n else pm n f (a*a%n) (e/2)
theorem pm_ok (n:Nat):∀ f a e,e<2^f->pm n f a e=a^e%n
 | 0,a,e,h=>by
  have:e=0:=by simpa using h
  subst this;rfl
 | f+1,a,e,h=>by
  unfold pm
  by_cases h0:e=0
  ·subst h0;rfl
  ·rw [if_neg h0,pm_ok n f _ _ (by rw [Nat.pow_succ] at h;omega)]
   have hd:=Nat.div_add_mod e 2
   have h2:(a*a%n)^(e/2)%n=a^(2*(e/2))%n:=by
    rw [<- Nat.pow_mod,Nat.pow_mul,Nat.pow_two]
   by_cases h1:e%2=1
   ·rw [if_pos h1,h2,Nat.mul_mod_mod,Nat.mul_comm,<- Nat.pow_succ]
    congr 2;omega
   ·rw [if_neg h1,h2]
    congr 2;omega
theorem pock' {n l q a e c:Nat} (f:Nat) (hf:n<=2^f) (hl:isP l) (hln:l∣n) (hq:isP q) (hn:n-1=q^(e+1)*c) (h1:pm n f a (n-1)=1) (hg:Nat.gcd (pm n f a (q^e*c)+(n-1)) n=1) (hn2:2<=n):q^(e+1)∣l-1:=by
 have hlt:q^e*c<=n-1:=by
  rw [hn,Nat.pow_succ,Nat.mul_right_comm]
  exact Nat.le_mul_of_pos_right _ (by have:=hq.1;omega)
 rw [pm_ok n f a (n-1) (by omega)] at h1
 rw [pm_ok n f a _ (by omega)] at hg
 exact pock hl hln hq hn h1 hg hn2
theorem small' {n:Nat} (k:Nat) (h2:2<=n) (hk:n<k*k) (h:(List.range k).all (fun d=>decide (d<2) || n%d != 0)=true):isP n :=
 small h2 hk fun d hd hd2=>by
  have:=List.all_eq_true.1 h d (List.mem_range.2 hd)
  simp only [Bool.or_eq_true,decide_eq_true_eq,bne_iff_ne] at this
  omega
theorem p2:isP 2:=small' 2 (by decide) (by decide) (by decide)
theorem p3:isP 3:=small' 2 (by decide) (by decide) (by decide)
theorem p11:isP 11:=small' 4 (by decide) (by decide) (by decide)
theorem p10177:isP 10177:=small' 101 (by decide) (by decide) (by decide +kernel)
theorem p859267:isP 859267:=small' 927 (by decide) (by decide) (by decide +kernel)
theorem mul_split {n q F:Nat} (hq:q∣n) (hF:F∣n-1) (hFq:F∣q-1) (hq1:1<=q) (hn:1<=n):∃ a b,q=1+a*F/\n=q*(1+b*F)∨n=0:=by
 obtain ⟨m,hm⟩:=hq
 obtain ⟨a,ha⟩:=hFq
 obtain ⟨R,hR⟩:=hF
 have h1:q=1+a*F:=by rw [Nat.mul_comm a F];omega
 have h2:F∣m-1:=by
  rcases Nat.eq_zero_or_pos m with h0 | h0
  ·rw [h0];exact ⟨0,rfl⟩
  ·have h3:m-1=F*R-F*(a*m):=by
    have h4:n=m+F*(a*m):=by rw [hm,h1,Nat.add_mul,Nat.one_mul,Nat.mul_comm a F,Nat.mul_assoc]
    omega
   rw [h3]
   exact Nat.dvd_sub (Nat.dvd_mul_right ..) (Nat.dvd_mul_right ..)
 obtain ⟨b,hb⟩:=h2
 rcases Nat.eq_zero_or_pos m with h0 | h0
 ·exact ⟨0,0,.inr (by rw [hm,h0,Nat.mul_zero])⟩
 ·refine ⟨a,b,.inl ⟨h1,?_⟩⟩
  rw [hm];congr 1;rw [Nat.mul_comm b F];omega
theorem big3 {n F c0 c1 s:Nat} (hn:2<=n) (hF:2<=F) (hdv:F∣n-1) (hR:(n-1)/F=c1*F+c0) (hc:c0<F) (hsz:n/(F*F)+1<F) (hs:s*s+4*c1<c0*c0) (hs2:c0*c0<(s+1)*(s+1)+4*c1) (h:∀ l,isP l->l∣n->F∣l-1):isP n:=by
 apply Classical.byContradiction
 intro hp
 obtain ⟨q,hq,hqn,hqq⟩:=least hn hp
 have hq2:=hq.1
 obtain ⟨a,b,hab | h0⟩:=mul_split hqn hdv (h q hq hqn) (by omega) (by omega)
 ·obtain ⟨e1,e2⟩:=hab
  have ha:1<=a:=by
   rcases Nat.eq_zero_or_pos a with h0 | h0
   ·rw [h0] at e1;omega
   ·exact h0
  have hb:1<=b:=by
   rcases Nat.eq_zero_or_pos b with h0 | h0
   ·rw [h0,Nat.zero_mul,Nat.add_zero,Nat.mul_one] at e2
    have:q*2<=q*q:=Nat.mul_le_mul_left q hq2
    omega
   ·exact h0
  have e3:n=1+F*(a+b+a*b*F):=by rw [e2,e1];grind
  have e4:(n-1)/F=a*b*F+(a+b):=by
   rw [show n-1=F*(a+b+a*b*F) by omega,Nat.mul_div_cancel_left _ (by omega)];omega
  have e5:a*b<=n/(F*F):=by
   rw [Nat.le_div_iff_mul_le (Nat.mul_pos (by omega) (by omega))]
   rw [e3]
   have:a*b*(F*F)=F*(a*b*F):=by grind
   rw [this,Nat.mul_add];omega
  have e6:a+b<=a*b+1:=by
   obtain ⟨a',rfl⟩:∃ a',a=a'+1:=⟨a-1,by omega⟩
   obtain ⟨b',rfl⟩:∃ b',b=b'+1:=⟨b-1,by omega⟩
   have:(a'+1)*(b'+1)=a'*b'+a'+b'+1:=by grind
   rw [this]
   have:=Nat.zero_le (a'*b')
   generalize a'*b'=z at *
   omega
  rw [hR] at e4
  have e7:c0=a+b/\c1=a*b:=by
   have h1:(c1*F+c0)%F=c0:=by rw [Nat.mul_add_mod_self_right,Nat.mod_eq_of_lt hc]
   have h2:(a*b*F+(a+b))%F=a+b:=by rw [Nat.mul_add_mod_self_right,Nat.mod_eq_of_lt (by omega)]
   have h3:c0=a+b:=by rw [<- h1,e4,h2]
   refine ⟨h3,?_⟩
   have h4:c1*F=a*b*F:=by omega
   exact Nat.eq_of_mul_eq_mul_right (by omega) h4
  obtain ⟨e8,e9⟩:=e7
  rw [e8,e9] at hs hs2
  rcases Nat.le_total a b with hle | hle
  ·obtain ⟨d,rfl⟩:=Nat.exists_eq_add_of_le hle
   have h1:(a+(a+d))*(a+(a+d))=d*d+4*(a*(a+d)):=by grind
   rw [h1] at hs hs2
   have h2:s<d:=Nat.lt_of_not_le fun hc=>by
    have:=Nat.mul_le_mul hc hc
    omega
   have:=Nat.mul_le_mul (show s+1<=d by omega) (show s+1<=d by omega)
   omega
  ·obtain ⟨d,rfl⟩:=Nat.exists_eq_add_of_le hle
   have h1:(b+d+b)*(b+d+b)=d*d+4*((b+d)*b):=by grind
   rw [h1] at hs hs2
   have h2:s<d:=Nat.lt_of_not_le fun hc=>by
    have:=Nat.mul_le_mul hc hc
    omega
   have:=Nat.mul_le_mul (show s+1<=d by omega) (show s+1<=d by omega)
   omega
 ·omega
theorem p23:isP 23:=small' 5 (by decide) (by decide) (by decide +kernel)
theorem p47:isP 47:=small' 7 (by decide) (by decide) (by decide +kernel)
theorem p52437899:isP 52437899:=small' 7242 (by decide) (by decide) (by decide +kernel)
theorem p7577:isP 7577:=small' 88 (by decide) (by decide) (by decide +kernel)
theorem p582767:isP 582767:=small' 764 (by decide) (by decide) (by decide +kernel)
theorem p9272813673901:isP 9272813673901:=by
 refine big (F:=7577^1*582767^1) (by decide +kernel) (by decide +kernel) fun l hl hln=>?_
 have a0:=pock' (n:=9272813673901) (l:=l) (q:=7577) (a:=2) (e:=0) (c:=(9272813673901-1)/7577^1) 44 (by decide +kernel) hl hln p7577 (by decide +kernel) (by decide +kernel) (by decide +kernel) (by decide +kernel)
 have a1:=pock' (n:=9272813673901) (l:=l) (q:=582767) (a:=2) (e:=0) (c:=(9272813673901-1)/582767^1) 44 (by decide +kernel) hl hln p582767 (by decide +kernel) (by decide +kernel) (by decide +kernel) (by decide +kernel)
 exact (Nat.Coprime.mul_dvd_of_dvd_of_dvd (by decide +kernel) a0 a1)
theorem p1928745244171409:isP 1928745244171409:=by
 refine big (F:=9272813673901^1) (by decide +kernel) (by decide +kernel) fun l hl hln=>?_
 have a0:=pock' (n:=1928745244171409) (l:=l) (q:=9272813673901) (a:=2) (e:=0) (c:=(1928745244171409-1)/9272813673901^1) 51 (by decide +kernel) hl hln p9272813673901 (by decide +kernel) (by decide +kernel) (by decide +kernel) (by decide +kernel)
 exact a0
theorem p7259797099061183477:isP 7259797099061183477:=by
 refine big (F:=1928745244171409^1) (by decide +kernel) (by decide +kernel) fun l hl hln=>?_
 have a0:=pock' (n:=7259797099061183477) (l:=l) (q:=1928745244171409) (a:=2) (e:=0) (c:=(7259797099061183477-1)/1928745244171409^1) 63 (by decide +kernel) hl hln p1928745244171409 (by decide +kernel) (by decide +kernel) (by decide +kernel) (by decide +kernel)
 exact a0
theorem p2584487767265781317813:isP 2584487767265781317813:=by
 refine big (F:=7259797099061183477^1) (by decide +kernel) (by decide +kernel) fun l hl hln=>?_
 have a0:=pock' (n:=2584487767265781317813) (l:=l) (q:=7259797099061183477) (a:=2) (e:=0) (c:=(2584487767265781317813-1)/7259797099061183477^1) 72 (by decide +kernel) hl hln p7259797099061183477 (by decide +kernel) (by decide +kernel) (by decide +kernel) (by decide +kernel)
 exact a0
def nP:Nat:=4002409555221667393417789825735904156556882819939007885332058136124031650490837864442687629129015664037894272559787
theorem p_base:isP nP:=by
 refine big3 (F:=2^1*3^2*11^1*23^1*47^1*10177^1*859267^1*52437899^1*2584487767265781317813^1) (c0:=41045055325326579460269857981194636858402675) (c1:=62202009562450627810769096) (s:=41045055325326579460269857981194636858402674) (by decide +kernel) (by decide +kernel) (by decide +kernel) (by decide +kernel) (by decide +kernel) (by decide +kernel) (by decide +kernel) (by decide +kernel) fun l hl hln=>?_
 have a0:=pock' (n:=nP) (l:=l) (q:=2) (a:=2) (e:=0) (c:=(nP-1)/2^1) 381 (by decide +kernel) hl hln p2 (by decide +kernel) (by decide +kernel) (by decide +kernel) (by decide +kernel)
 have a1:=pock' (n:=nP) (l:=l) (q:=3) (a:=2) (e:=1) (c:=(nP-1)/3^2) 381 (by decide +kernel) hl hln p3 (by decide +kernel) (by decide +kernel) (by decide +kernel) (by decide +kernel)
 have a2:=pock' (n:=nP) (l:=l) (q:=11) (a:=2) (e:=0) (c:=(nP-1)/11^1) 381 (by decide +kernel) hl hln p11 (by decide +kernel) (by decide +kernel) (by decide +kernel) (by decide +kernel)
 have a3:=pock' (n:=nP) (l:=l) (q:=23) (a:=2) (e:=0) (c:=(nP-1)/23^1) 381 (by decide +kernel) hl hln p23 (by decide +kernel) (by decide +kernel) (by decide +kernel) (by decide +kernel)
 have a4:=pock' (n:=nP) (l:=l) (q:=47) (a:=2) (e:=0) (c:=(nP-1)/47^1) 381 (by decide +kernel) hl hln p47 (by decide +kernel) (by decide +kernel) (by decide +kernel) (by decide +kernel)
 have a5:=pock' (n:=nP) (l:=l) (q:=10177) (a:=2) (e:=0) (c:=(nP-1)/10177^1) 381 (by decide +kernel) hl hln p10177 (by decide +kernel) (by decide +kernel) (by decide +kernel) (by decide +kernel)
 have a6:=pock' (n:=nP) (l:=l) (q:=859267) (a:=2) (e:=0) (c:=(nP-1)/859267^1) 381 (by decide +kernel) hl hln p859267 (by decide +kernel) (by decide +kernel) (by decide +kernel) (by decide +kernel)
 have a7:=pock' (n:=nP) (l:=l) (q:=52437899) (a:=2) (e:=0) (c:=(nP-1)/52437899^1) 381 (by decide +kernel) hl hln p52437899 (by decide +kernel) (by decide +kernel) (by decide +kernel) (by decide +kernel)
 have a8:=pock' (n:=nP) (l:=l) (q:=2584487767265781317813) (a:=2) (e:=0) (c:=(nP-1)/2584487767265781317813^1) 381 (by decide +kernel) hl hln p2584487767265781317813 (by decide +kernel) (by decide +kernel) (by decide +kernel) (by decide +kernel)
 have b1:=Nat.Coprime.mul_dvd_of_dvd_of_dvd (by decide +kernel) a0 a1
 have b2:=Nat.Coprime.mul_dvd_of_dvd_of_dvd (by decide +kernel) b1 a2
 have b3:=Nat.Coprime.mul_dvd_of_dvd_of_dvd (by decide +kernel) b2 a3
 have b4:=Nat.Coprime.mul_dvd_of_dvd_of_dvd (by decide +kernel) b3 a4
 have b5:=Nat.Coprime.mul_dvd_of_dvd_of_dvd (by decide +kernel) b4 a5
 have b6:=Nat.Coprime.mul_dvd_of_dvd_of_dvd (by decide +kernel) b5 a6
 have b7:=Nat.Coprime.mul_dvd_of_dvd_of_dvd (by decide +kernel) b6 a7
 have b8:=Nat.Coprime.mul_dvd_of_dvd_of_dvd (by decide +kernel) b7 a8
 exact b8
end Np
