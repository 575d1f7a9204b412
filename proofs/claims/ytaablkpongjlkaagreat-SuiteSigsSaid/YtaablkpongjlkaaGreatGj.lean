/- Part Gj of the proof. -/
import Derived.Test.YtaablkpongjlkaaGreatGi
set_option linter.unusedVariables false
set_option linter.unusedSimpArgs false
namespace Go.Sx
open Go Go.RowKit
set_option maxRecDepth 100000
theorem cs_mod {v s p:Int} (h:v=if p<=s then s-p else s) (h0:0<=s) (h1:s<2*p):v=s%p:=by
 rw [h]
 split
 ·exact (md_eq 1 (by omega) (by omega) (by omega)).symm
 ·exact (Int.emod_eq_of_lt h0 (by omega)).symm
theorem subc2 {s c x y i:Int} (hs:s=(x-y-i)%18446744073709551616) (hc:c=if x<y+i then 1 else 0) (hx:0<=x/\x<18446744073709551616) (hy:0<=y/\y<18446744073709551616) (hi:0<=i/\i<=1) :
  s=x-y-i+18446744073709551616*c/\(0<=c/\c<=1)/\(0<=s/\s<18446744073709551616):=by split at hc <;> omega
theorem addc2 {s c x y i:Int} (hs:s=(x+y+i)%18446744073709551616) (hc:c=(x+y+i)/18446744073709551616) (hx:0<=x/\x<18446744073709551616) (hy:0<=y/\y<18446744073709551616) (hi:0<=i/\i<=1) :
  s+18446744073709551616*c=x+y+i/\(0<=c/\c<=1)/\(0<=s/\s<18446744073709551616):=by omega
theorem sub6 {x0 x1 x2 x3 x4 x5 y0 y1 y2 y3 y4 y5 s0 s1 s2 s3 s4 s5 c0 c1 c2 c3 c4 c5:Int} (h0:s0=x0-y0-0+18446744073709551616*c0) (h1:s1=x1-y1-c0+18446744073709551616*c1) (h2:s2=x2-y2-c1+18446744073709551616*c2) (h3:s3=x3-y3-c2+18446744073709551616*c3) (h4:s4=x4-y4-c3+18446744073709551616*c4) (h5:s5=x5-y5-c4+18446744073709551616*c5) :
  s0+18446744073709551616*(s1+18446744073709551616*(s2+18446744073709551616*(s3+18446744073709551616*(s4+18446744073709551616*s5))))=(x0+18446744073709551616*(x1+18446744073709551616*(x2+18446744073709551616*(x3+18446744073709551616*(x4+18446744073709551616*x5)))))-(y0+18446744073709551616*(y1+18446744073709551616*(y2+18446744073709551616*(y3+18446744073709551616*(y4+18446744073709551616*y5)))))+39402006196394479212279040100143613805079739270465446667948293404245721771497210611414266254884915640806627990306816*c5:=by omega
theorem add6 {x0 x1 x2 x3 x4 x5 y0 y1 y2 y3 y4 y5 s0 s1 s2 s3 s4 s5 c0 c1 c2 c3 c4 c5:Int} (h0:s0+18446744073709551616*c0=x0+y0+0) (h1:s1+18446744073709551616*c1=x1+y1+c0) (h2:s2+18446744073709551616*c2=x2+y2+c1) (h3:s3+18446744073709551616*c3=x3+y3+c2) (h4:s4+18446744073709551616*c4=x4+y4+c3) (h5:s5+18446744073709551616*c5=x5+y5+c4) :
  s0+18446744073709551616*(s1+18446744073709551616*(s2+18446744073709551616*(s3+18446744073709551616*(s4+18446744073709551616*s5))))+39402006196394479212279040100143613805079739270465446667948293404245721771497210611414266254884915640806627990306816*c5=(x0+18446744073709551616*(x1+18446744073709551616*(x2+18446744073709551616*(x3+18446744073709551616*(x4+18446744073709551616*x5)))))+(y0+18446744073709551616*(y1+18446744073709551616*(y2+18446744073709551616*(y3+18446744073709551616*(y4+18446744073709551616*y5))))):=by omega
theorem rng6 {s0 s1 s2 s3 s4 s5:Int} (h0:0<=s0/\s0<18446744073709551616) (h1:0<=s1/\s1<18446744073709551616) (h2:0<=s2/\s2<18446744073709551616) (h3:0<=s3/\s3<18446744073709551616) (h4:0<=s4/\s4<18446744073709551616) (h5:0<=s5/\s5<18446744073709551616) :
  0<=s0+18446744073709551616*(s1+18446744073709551616*(s2+18446744073709551616*(s3+18446744073709551616*(s4+18446744073709551616*s5))))/\s0+18446744073709551616*(s1+18446744073709551616*(s2+18446744073709551616*(s3+18446744073709551616*(s4+18446744073709551616*s5))))<39402006196394479212279040100143613805079739270465446667948293404245721771497210611414266254884915640806627990306816:=by omega
theorem z01:(0:Int)<=0/\(0:Int)<=1:=by decide
theorem bP_wd:bP=13402431016077863595+18446744073709551616*(2210141511517208575+18446744073709551616*(7435674573564081700+18446744073709551616*(7239337960414712511+18446744073709551616*(5412103778470702295+18446744073709551616*1873798617647539866)))):=by decide
theorem u_lit {n:Int} (h:decide (0<=n/\n<18446744073709551616)=true):0<=n/\n<18446744073709551616:=of_decide_eq_true h
def tELess:Tree:=(.req 0 [.limb 0 0,.lit 13402431016077863595,.lit 0]
(.lett 385 (.int .u64) (.app 0 0 [.limb 0 0,.lit 13402431016077863595,.lit 0])
(.lett 386 (.int .u64) (.app 0 1 [.limb 0 0,.lit 13402431016077863595,.lit 0])
(.req 0 [.limb 0 1,.lit 2210141511517208575,.var 386]
(.lett 1105 (.int .u64) (.app 0 0 [.limb 0 1,.lit 2210141511517208575,.var 386])
(.lett 1106 (.int .u64) (.app 0 1 [.limb 0 1,.lit 2210141511517208575,.var 386])
(.req 0 [.limb 0 2,.lit 7435674573564081700,.var 1106]
(.lett 1825 (.int .u64) (.app 0 0 [.limb 0 2,.lit 7435674573564081700,.var 1106])
(.lett 1826 (.int .u64) (.app 0 1 [.limb 0 2,.lit 7435674573564081700,.var 1106])
(.req 0 [.limb 0 3,.lit 7239337960414712511,.var 1826]
(.lett 2545 (.int .u64) (.app 0 0 [.limb 0 3,.lit 7239337960414712511,.var 1826])
(.lett 2546 (.int .u64) (.app 0 1 [.limb 0 3,.lit 7239337960414712511,.var 1826])
(.req 0 [.limb 0 4,.lit 5412103778470702295,.var 2546]
(.lett 3265 (.int .u64) (.app 0 0 [.limb 0 4,.lit 5412103778470702295,.var 2546])
(.lett 3266 (.int .u64) (.app 0 1 [.limb 0 4,.lit 5412103778470702295,.var 2546])
(.req 0 [.limb 0 5,.lit 1873798617647539866,.var 3266]
(.lett 3985 (.int .u64) (.app 0 0 [.limb 0 5,.lit 1873798617647539866,.var 3266])
(.lett 3986 (.int .u64) (.app 0 1 [.limb 0 5,.lit 1873798617647539866,.var 3266])
(.lett 4321 .bit (.cmp .eql (.var 3986) (.lit 1))
(.split 4321
(.ret [.var 0])
(.lett 4322 .num (.join [.var 385,.var 1105,.var 1825,.var 2545,.var 3265,.var 3985])
(.ret [.var 4322]))))))))))))))))))))))
theorem law_eLess (f1 f:FuncId) (e:Nat->Int) (hk:kkHas [.num] [e 0]):tELess.says [kSub64 f1] ⟨fun ys=>ys=(kELess f).sem [e 0],[]⟩ e:=by
 obtain ⟨ha,_⟩:=hk
 have ea:=lim_eq ha
 have hb:=bP_wd
 have l0_0:=lim_lt (e 0) 0
 have l0_1:=lim_lt (e 0) 1
 have l0_2:=lim_lt (e 0) 2
 have l0_3:=lim_lt (e 0) 3
 have l0_4:=lim_lt (e 0) 4
 have l0_5:=lim_lt (e 0) 5
 have p_0:(0:Int)<=13402431016077863595/\(13402431016077863595:Int)<18446744073709551616:=u_lit (by decide)
 have p_1:(0:Int)<=2210141511517208575/\(2210141511517208575:Int)<18446744073709551616:=u_lit (by decide)
 have p_2:(0:Int)<=7435674573564081700/\(7435674573564081700:Int)<18446744073709551616:=u_lit (by decide)
 have p_3:(0:Int)<=7239337960414712511/\(7239337960414712511:Int)<18446744073709551616:=u_lit (by decide)
 have p_4:(0:Int)<=5412103778470702295/\(5412103778470702295:Int)<18446744073709551616:=u_lit (by decide)
 have p_5:(0:Int)<=1873798617647539866/\(1873798617647539866:Int)<18446744073709551616:=u_lit (by decide)
 simp only [tELess,kSub64,kELess,KK.has,joinE6,Tree.says,List.getElem?_cons_zero,List.getElem?_cons_succ,List.map,ev_lit,ev_var,ev_limb,D.ev,List.getD_cons_zero,List.getD_cons_succ]
 generalize lim (e 0) 0=x00 at *
 generalize lim (e 0) 1=x01 at *
 generalize lim (e 0) 2=x02 at *
 generalize lim (e 0) 3=x03 at *
 generalize lim (e 0) 4=x04 at *
 generalize lim (e 0) 5=x05 at *
 refine ⟨z01,fun as0 _ at0 _=>?_⟩
 obtain ⟨ap0,aq0,ar0⟩:=subc2 as0 at0 l0_0 p_0 z01
 clear as0 at0
 refine ⟨aq0,fun as1 _ at1 _=>?_⟩
 obtain ⟨ap1,aq1,ar1⟩:=subc2 as1 at1 l0_1 p_1 aq0
 clear as1 at1
 refine ⟨aq1,fun as2 _ at2 _=>?_⟩
 obtain ⟨ap2,aq2,ar2⟩:=subc2 as2 at2 l0_2 p_2 aq1
 clear as2 at2
 refine ⟨aq2,fun as3 _ at3 _=>?_⟩
 obtain ⟨ap3,aq3,ar3⟩:=subc2 as3 at3 l0_3 p_3 aq2
 clear as3 at3
 refine ⟨aq3,fun as4 _ at4 _=>?_⟩
 obtain ⟨ap4,aq4,ar4⟩:=subc2 as4 at4 l0_4 p_4 aq3
 clear as4 at4
 refine ⟨aq4,fun as5 _ at5 _=>?_⟩
 obtain ⟨ap5,aq5,ar5⟩:=subc2 as5 at5 l0_5 p_5 aq4
 clear as5 at5
 have tot:=sub6 ap0 ap1 ap2 ap3 ap4 ap5
 have rg:=rng6 ar0 ar1 ar2 ar3 ar4 ar5
 rw [<- ea,<- hb] at tot
 intro h1 _
 have h1:=c_eq h1
 refine ⟨fun n=>?_,fun n=>?_⟩
 ·rw [if_neg (by clear ea hb ap0 ap1 ap2 ap3 ap4 ap5 ar0 ar1 ar2 ar3 ar4 ar5;omega)]
 ·intro h2 h3
  rw [<- h2] at tot
  rw [if_pos (by clear ea hb ap0 ap1 ap2 ap3 ap4 ap5 ar0 ar1 ar2 ar3 ar4 ar5;omega)]
  congr 1
  clear ea hb ap0 ap1 ap2 ap3 ap4 ap5 ar0 ar1 ar2 ar3 ar4 ar5
  omega
def tEAdd:Tree:=(.req 0 [.limb 0 0,.limb 1 0,.lit 0]
(.lett 386 (.int .u64) (.app 0 0 [.limb 0 0,.limb 1 0,.lit 0])
(.lett 387 (.int .u64) (.app 0 1 [.limb 0 0,.limb 1 0,.lit 0])
(.req 0 [.limb 0 1,.limb 1 1,.var 387]
(.lett 1106 (.int .u64) (.app 0 0 [.limb 0 1,.limb 1 1,.var 387])
(.lett 1107 (.int .u64) (.app 0 1 [.limb 0 1,.limb 1 1,.var 387])
(.req 0 [.limb 0 2,.limb 1 2,.var 1107]
(.lett 1826 (.int .u64) (.app 0 0 [.limb 0 2,.limb 1 2,.var 1107])
(.lett 1827 (.int .u64) (.app 0 1 [.limb 0 2,.limb 1 2,.var 1107])
(.req 0 [.limb 0 3,.limb 1 3,.var 1827]
(.lett 2546 (.int .u64) (.app 0 0 [.limb 0 3,.limb 1 3,.var 1827])
(.lett 2547 (.int .u64) (.app 0 1 [.limb 0 3,.limb 1 3,.var 1827])
(.req 0 [.limb 0 4,.limb 1 4,.var 2547]
(.lett 3266 (.int .u64) (.app 0 0 [.limb 0 4,.limb 1 4,.var 2547])
(.lett 3267 (.int .u64) (.app 0 1 [.limb 0 4,.limb 1 4,.var 2547])
(.req 0 [.limb 0 5,.limb 1 5,.var 3267]
(.lett 3986 (.int .u64) (.app 0 0 [.limb 0 5,.limb 1 5,.var 3267])
(.lett 3987 (.int .u64) (.app 0 1 [.limb 0 5,.limb 1 5,.var 3267])
(.lett 4322 .num (.join [.var 386,.var 1106,.var 1826,.var 2546,.var 3266,.var 3986])
(.req 1 [.var 4322]
(.lett 4323 .num (.app 1 0 [.var 4322])
(.ret [.var 4323]))))))))))))))))))))))
theorem law_eAdd (f1 f2 f:FuncId) (e:Nat->Int) (hk:kkHas [.num,.num] [e 0,e 1]) (hp:(kEAdd f).pre [e 0,e 1]):tEAdd.says [kAdd64 f1,kELess f2] ⟨fun ys=>ys=(kEAdd f).sem [e 0,e 1],[]⟩ e:=by
 obtain ⟨ha,hb,_⟩:=hk
 obtain ⟨u0,u1⟩:e 0<bP/\e 1<bP:=hp
 have v0:0<=e 0:=ha.1
 have v1:0<=e 1:=hb.1
 have ea:=lim_eq ha
 have eb:=lim_eq hb
 have hP:=bP_lt
 have l0_0:=lim_lt (e 0) 0
 have l0_1:=lim_lt (e 0) 1
 have l0_2:=lim_lt (e 0) 2
 have l0_3:=lim_lt (e 0) 3
 have l0_4:=lim_lt (e 0) 4
 have l0_5:=lim_lt (e 0) 5
 have l1_0:=lim_lt (e 1) 0
 have l1_1:=lim_lt (e 1) 1
 have l1_2:=lim_lt (e 1) 2
 have l1_3:=lim_lt (e 1) 3
 have l1_4:=lim_lt (e 1) 4
 have l1_5:=lim_lt (e 1) 5
 simp only [tEAdd,kAdd64,kELess,kEAdd,KK.has,joinE6,Tree.says,List.getElem?_cons_zero,List.getElem?_cons_succ,List.map,ev_lit,ev_var,ev_limb,D.ev,List.getD_cons_zero,List.getD_cons_succ]
 generalize lim (e 0) 0=x00 at *
 generalize lim (e 0) 1=x01 at *
 generalize lim (e 0) 2=x02 at *
 generalize lim (e 0) 3=x03 at *
 generalize lim (e 0) 4=x04 at *
 generalize lim (e 0) 5=x05 at *
 generalize lim (e 1) 0=x10 at *
 generalize lim (e 1) 1=x11 at *
 generalize lim (e 1) 2=x12 at *
 generalize lim (e 1) 3=x13 at *
 generalize lim (e 1) 4=x14 at *
 generalize lim (e 1) 5=x15 at *
 refine ⟨z01,fun as0 _ at0 _=>?_⟩
 obtain ⟨ap0,aq0,ar0⟩:=addc2 as0 at0 l0_0 l1_0 z01
 clear as0 at0
 refine ⟨aq0,fun as1 _ at1 _=>?_⟩
 obtain ⟨ap1,aq1,ar1⟩:=addc2 as1 at1 l0_1 l1_1 aq0
 clear as1 at1
 refine ⟨aq1,fun as2 _ at2 _=>?_⟩
 obtain ⟨ap2,aq2,ar2⟩:=addc2 as2 at2 l0_2 l1_2 aq1
 clear as2 at2
 refine ⟨aq2,fun as3 _ at3 _=>?_⟩
 obtain ⟨ap3,aq3,ar3⟩:=addc2 as3 at3 l0_3 l1_3 aq2
 clear as3 at3
 refine ⟨aq3,fun as4 _ at4 _=>?_⟩
 obtain ⟨ap4,aq4,ar4⟩:=addc2 as4 at4 l0_4 l1_4 aq3
 clear as4 at4
 refine ⟨aq4,fun as5 _ at5 _=>?_⟩
 obtain ⟨ap5,aq5,ar5⟩:=addc2 as5 at5 l0_5 l1_5 aq4
 clear as5 at5
 have tot:=add6 ap0 ap1 ap2 ap3 ap4 ap5
 have rg:=rng6 ar0 ar1 ar2 ar3 ar4 ar5
 rw [<- ea,<- eb] at tot
 intro h1 h2
 refine ⟨trivial,fun h3 _=>?_⟩
 rw [<- h1] at tot rg
 clear ea eb h1 ap0 ap1 ap2 ap3 ap4 ap5 ar0 ar1 ar2 ar3 ar4 ar5
 have hs:e 4322=e 0+e 1:=by unfold N384 at hP;omega
 have h4:=cs_mod h3 (by omega) (by omega)
 rw [hs] at h4
 rw [E_add h4 (E_of v0 u0) (E_of v1 u1)]
def tESub:Tree:=(.req 0 [.limb 0 0,.limb 1 0,.lit 0]
(.lett 386 (.int .u64) (.app 0 0 [.limb 0 0,.limb 1 0,.lit 0])
(.lett 387 (.int .u64) (.app 0 1 [.limb 0 0,.limb 1 0,.lit 0])
(.req 0 [.limb 0 1,.limb 1 1,.var 387]
(.lett 1106 (.int .u64) (.app 0 0 [.limb 0 1,.limb 1 1,.var 387])
(.lett 1107 (.int .u64) (.app 0 1 [.limb 0 1,.limb 1 1,.var 387])
(.req 0 [.limb 0 2,.limb 1 2,.var 1107]
(.lett 1826 (.int .u64) (.app 0 0 [.limb 0 2,.limb 1 2,.var 1107])
(.lett 1827 (.int .u64) (.app 0 1 [.limb 0 2,.limb 1 2,.var 1107])
(.req 0 [.limb 0 3,.limb 1 3,.var 1827]
(.lett 2546 (.int .u64) (.app 0 0 [.limb 0 3,.limb 1 3,.var 1827])
(.lett 2547 (.int .u64) (.app 0 1 [.limb 0 3,.limb 1 3,.var 1827])
(.req 0 [.limb 0 4,.limb 1 4,.var 2547]
(.lett 3266 (.int .u64) (.app 0 0 [.limb 0 4,.limb 1 4,.var 2547])
(.lett 3267 (.int .u64) (.app 0 1 [.limb 0 4,.limb 1 4,.var 2547])
(.req 0 [.limb 0 5,.limb 1 5,.var 3267]
(.lett 3986 (.int .u64) (.app 0 0 [.limb 0 5,.limb 1 5,.var 3267])
(.lett 3987 (.int .u64) (.app 0 1 [.limb 0 5,.limb 1 5,.var 3267])
(.lett 4322 .bit (.cmp .eql (.var 3987) (.lit 1))
(.split 4322
(.req 1 [.var 386,.lit 13402431016077863595,.lit 0]
(.lett 4707 (.int .u64) (.app 1 0 [.var 386,.lit 13402431016077863595,.lit 0])
(.lett 4708 (.int .u64) (.app 1 1 [.var 386,.lit 13402431016077863595,.lit 0])
(.req 1 [.var 1106,.lit 2210141511517208575,.var 4708]
(.lett 5427 (.int .u64) (.app 1 0 [.var 1106,.lit 2210141511517208575,.var 4708])
(.lett 5428 (.int .u64) (.app 1 1 [.var 1106,.lit 2210141511517208575,.var 4708])
(.req 1 [.var 1826,.lit 7435674573564081700,.var 5428]
(.lett 6147 (.int .u64) (.app 1 0 [.var 1826,.lit 7435674573564081700,.var 5428])
(.lett 6148 (.int .u64) (.app 1 1 [.var 1826,.lit 7435674573564081700,.var 5428])
(.req 1 [.var 2546,.lit 7239337960414712511,.var 6148]
(.lett 6867 (.int .u64) (.app 1 0 [.var 2546,.lit 7239337960414712511,.var 6148])
(.lett 6868 (.int .u64) (.app 1 1 [.var 2546,.lit 7239337960414712511,.var 6148])
(.req 1 [.var 3266,.lit 5412103778470702295,.var 6868]
(.lett 7587 (.int .u64) (.app 1 0 [.var 3266,.lit 5412103778470702295,.var 6868])
(.lett 7588 (.int .u64) (.app 1 1 [.var 3266,.lit 5412103778470702295,.var 6868])
(.req 1 [.var 3986,.lit 1873798617647539866,.var 7588]
(.lett 8307 (.int .u64) (.app 1 0 [.var 3986,.lit 1873798617647539866,.var 7588])
(.lett 8308 (.int .u64) (.app 1 1 [.var 3986,.lit 1873798617647539866,.var 7588])
(.lett 8643 .num (.join [.var 4707,.var 5427,.var 6147,.var 6867,.var 7587,.var 8307])
(.ret [.var 8643]))))))))))))))))))))
(.lett 4323 .num (.join [.var 386,.var 1106,.var 1826,.var 2546,.var 3266,.var 3986])
(.ret [.var 4323]))))))))))))))))))))))
theorem law_eSub (f1 f2 f:FuncId) (e:Nat->Int) (hk:kkHas [.num,.num] [e 0,e 1]) (hp:(kESub f).pre [e 0,e 1]):tESub.says [kSub64 f1,kAdd64 f2] ⟨fun ys=>ys=(kESub f).sem [e 0,e 1],[]⟩ e:=by
 obtain ⟨ha,hb,_⟩:=hk
 obtain ⟨u0,u1⟩:e 0<bP/\e 1<bP:=hp
 have v0:0<=e 0:=ha.1
 have v1:0<=e 1:=hb.1
 have ea:=lim_eq ha
 have eb:=lim_eq hb
 have hP:=bP_lt
 have hW:=bP_wd
 have l0_0:=lim_lt (e 0) 0
 have l0_1:=lim_lt (e 0) 1
 have l0_2:=lim_lt (e 0) 2
 have l0_3:=lim_lt (e 0) 3
 have l0_4:=lim_lt (e 0) 4
 have l0_5:=lim_lt (e 0) 5
 have l1_0:=lim_lt (e 1) 0
 have l1_1:=lim_lt (e 1) 1
 have l1_2:=lim_lt (e 1) 2
 have l1_3:=lim_lt (e 1) 3
 have l1_4:=lim_lt (e 1) 4
 have l1_5:=lim_lt (e 1) 5
 have p_0:(0:Int)<=13402431016077863595/\(13402431016077863595:Int)<18446744073709551616:=u_lit (by decide)
 have p_1:(0:Int)<=2210141511517208575/\(2210141511517208575:Int)<18446744073709551616:=u_lit (by decide)
 have p_2:(0:Int)<=7435674573564081700/\(7435674573564081700:Int)<18446744073709551616:=u_lit (by decide)
 have p_3:(0:Int)<=7239337960414712511/\(7239337960414712511:Int)<18446744073709551616:=u_lit (by decide)
 have p_4:(0:Int)<=5412103778470702295/\(5412103778470702295:Int)<18446744073709551616:=u_lit (by decide)
 have p_5:(0:Int)<=1873798617647539866/\(1873798617647539866:Int)<18446744073709551616:=u_lit (by decide)
 simp only [tESub,kSub64,kAdd64,kESub,KK.has,joinE6,Tree.says,List.getElem?_cons_zero,List.getElem?_cons_succ,List.map,ev_lit,ev_var,ev_limb,D.ev,List.getD_cons_zero,List.getD_cons_succ]
 generalize lim (e 0) 0=x00 at *
 generalize lim (e 0) 1=x01 at *
 generalize lim (e 0) 2=x02 at *
 generalize lim (e 0) 3=x03 at *
 generalize lim (e 0) 4=x04 at *
 generalize lim (e 0) 5=x05 at *
 generalize lim (e 1) 0=x10 at *
 generalize lim (e 1) 1=x11 at *
 generalize lim (e 1) 2=x12 at *
 generalize lim (e 1) 3=x13 at *
 generalize lim (e 1) 4=x14 at *
 generalize lim (e 1) 5=x15 at *
 refine ⟨z01,fun as0 _ at0 _=>?_⟩
 obtain ⟨ap0,aq0,ar0⟩:=subc2 as0 at0 l0_0 l1_0 z01
 clear as0 at0
 refine ⟨aq0,fun as1 _ at1 _=>?_⟩
 obtain ⟨ap1,aq1,ar1⟩:=subc2 as1 at1 l0_1 l1_1 aq0
 clear as1 at1
 refine ⟨aq1,fun as2 _ at2 _=>?_⟩
 obtain ⟨ap2,aq2,ar2⟩:=subc2 as2 at2 l0_2 l1_2 aq1
 clear as2 at2
 refine ⟨aq2,fun as3 _ at3 _=>?_⟩
 obtain ⟨ap3,aq3,ar3⟩:=subc2 as3 at3 l0_3 l1_3 aq2
 clear as3 at3
 refine ⟨aq3,fun as4 _ at4 _=>?_⟩
 obtain ⟨ap4,aq4,ar4⟩:=subc2 as4 at4 l0_4 l1_4 aq3
 clear as4 at4
 refine ⟨aq4,fun as5 _ at5 _=>?_⟩
 obtain ⟨ap5,aq5,ar5⟩:=subc2 as5 at5 l0_5 l1_5 aq4
 clear as5 at5
 have tot:=sub6 ap0 ap1 ap2 ap3 ap4 ap5
 have rg:=rng6 ar0 ar1 ar2 ar3 ar4 ar5
 rw [<- ea,<- eb] at tot
 intro h1 _
 have h1:=c_eq h1
 have fin:∀ v:Int,v=(e 0-e 1)%bP->[v]=[toE (ofE (e 0)-ofE (e 1))]:=fun v hv=>by rw [E_sub hv (E_of v0 u0) (E_of v1 u1)]
 refine ⟨fun n=>?_,fun n=>?_⟩
 ·have hc:e 3987=1:=by
   rcases h1 with ⟨_,h⟩ | ⟨h,_⟩
   ·exact h
   ·exact absurd h n
  refine ⟨z01,fun bs0 _ bt0 _=>?_⟩
  obtain ⟨bp0,bq0,br0⟩:=addc2 bs0 bt0 ar0 p_0 z01
  clear bs0 bt0
  refine ⟨bq0,fun bs1 _ bt1 _=>?_⟩
  obtain ⟨bp1,bq1,br1⟩:=addc2 bs1 bt1 ar1 p_1 bq0
  clear bs1 bt1
  refine ⟨bq1,fun bs2 _ bt2 _=>?_⟩
  obtain ⟨bp2,bq2,br2⟩:=addc2 bs2 bt2 ar2 p_2 bq1
  clear bs2 bt2
  refine ⟨bq2,fun bs3 _ bt3 _=>?_⟩
  obtain ⟨bp3,bq3,br3⟩:=addc2 bs3 bt3 ar3 p_3 bq2
  clear bs3 bt3
  refine ⟨bq3,fun bs4 _ bt4 _=>?_⟩
  obtain ⟨bp4,bq4,br4⟩:=addc2 bs4 bt4 ar4 p_4 bq3
  clear bs4 bt4
  refine ⟨bq4,fun bs5 _ bt5 _=>?_⟩
  obtain ⟨bp5,bq5,br5⟩:=addc2 bs5 bt5 ar5 p_5 bq4
  clear bs5 bt5
  have tot2:=add6 bp0 bp1 bp2 bp3 bp4 bp5
  have rg2:=rng6 br0 br1 br2 br3 br4 br5
  rw [<- hW,tot] at tot2
  intro h2 h3
  refine fin _ ?_
  rw [<- h2] at tot2 rg2
  rw [tot] at rg
  have b6:=bq5
  clear ap0 ap1 ap2 ap3 ap4 ap5 ar0 ar1 ar2 ar3 ar4 ar5 bp0 bp1 bp2 bp3 bp4 bp5 br0 br1 br2 br3 br4 br5 ea eb h2 hW tot h3
  unfold N384 at hP
  have hs:e 8643=e 0-e 1+bP:=by omega
  rw [hs]
  exact (md_eq (-1) (by omega) (by omega) (by omega)).symm
 ·have hc:e 3987=0:=by
   rcases h1 with ⟨h,_⟩ | ⟨_,h⟩
   ·exact absurd (h.symm.trans n) (by decide)
   ·have:=aq5;clear tot rg ea eb hW;rcases this with ⟨q1,q2⟩;rcases Int.lt_or_le 0 (e 3987) with z | z;exact absurd (show e 3987=1 from Int.le_antisymm q2 z) h;exact Int.le_antisymm z q1
  intro h2 h3
  refine fin _ ?_
  rw [<- h2] at tot rg
  clear ap0 ap1 ap2 ap3 ap4 ap5 ar0 ar1 ar2 ar3 ar4 ar5 ea eb h2 hW h3
  have hs:e 4323=e 0-e 1:=by omega
  rw [hs]
  exact (Int.emod_eq_of_lt (by omega) (by omega)).symm
theorem q_0:(0:Int)=toE 0:=toE_0.symm
def tENeg:Tree:=(.req 0 [.lit 0,.var 0]
(.lett 1 .num (.app 0 0 [.lit 0,.var 0])
(.ret [.var 1])))
theorem law_eNeg (f1 f:FuncId) (e:Nat->Int) (hk:kkHas [.num] [e 0]) (hp:(kENeg f).pre [e 0]):tENeg.says [kESub f1] ⟨fun ys=>ys=(kENeg f).sem [e 0],[]⟩ e:=by
 have u0:e 0<bP:=hp
 refine ⟨⟨bP_pos,u0⟩,fun a1 _=>?_⟩
 show [e 1]=[toE (-ofE (e 0))]
 rw [show e 1=toE (ofE 0-ofE (e 0)) from a1,show ofE 0=0 by unfold ofE;rw [Int.zero_mul];rfl,Int.zero_sub]
theorem mul_of_mont {P:Program} {f:FuncId} (h:(kEMont f).ok P):(kEMul f).ok P:=by
 intro w args xs hin hp
 have hx:∃ a b,xs=[a,b]:=by
  match xs,hp with
  | [a,b],_=>exact ⟨a,b,rfl⟩
 obtain ⟨a,b,rfl⟩:=hx
 have hp':a<bP/\b<bP:=hp
 have h1:=insRel_kk _ _ _ hin
 have ka:0<=a:=h1.1.1
 have kb:0<=b:=h1.2.1.1
 have h2:=h w args [a,b] hin hp'.1
 have e1:(kEMont f).sem [a,b]=(kEMul f).sem [a,b]:=by
  show [montv bP a b]=[toE (ofE a*ofE b)]
  rw [E_mul rfl (E_of ka hp'.1) (E_of kb hp'.2)]
 rw [<- e1]
 exact h2
def kEWide (f:FuncId):K:={fn:=f,ext:=false,ins:=[],outs:=[oN],pre:=fun _=>True,sem:=fun _=>[wideOf bP] }
def kEOne (f:FuncId):K:={fn:=f,ext:=false,ins:=[],outs:=[oN],pre:=fun _=>True,sem:=fun _=>[toE 1] }
def tEWide:Tree:=(.ret [.lit 2708263910654730174793787626328176511836455197166317677006154293982164122222515399004018013397331347120527951271750])
theorem law_eWide (f:FuncId) (e:Nat->Int):tEWide.says [] ⟨fun ys=>ys=(kEWide f).sem [],[]⟩ e:=by
 show [(_:Int)]=[wideOf bP]
 rw [show wideOf bP=2708263910654730174793787626328176511836455197166317677006154293982164122222515399004018013397331347120527951271750 by decide +kernel];rfl
def tEOne:Tree:=(.ret [.lit 3380320199399472671518931668520476396067793891014375699959770179129436917079669831430077592723774664465579537268733])
theorem law_eOne (f:FuncId) (e:Nat->Int):tEOne.says [] ⟨fun ys=>ys=(kEOne f).sem [],[]⟩ e:=by
 show [(3380320199399472671518931668520476396067793891014375699959770179129436917079669831430077592723774664465579537268733:Int)]=[toE 1]
 rw [show toE 1=N384%bP by unfold toE;rw [Int.one_mul]]
 decide +kernel
def tETo:Tree:=(.req 1 []
(.lett 1 .num (.app 1 0 [])
(.req 0 [.var 1,.var 0]
(.lett 97 .num (.app 0 0 [.var 1,.var 0])
(.ret [.var 97])))))
theorem law_eTo (f1 f2 f:FuncId) (e:Nat->Int) (hk:kkHas [.num] [e 0]):tETo.says [kEMont f1,kEWide f2] ⟨fun ys=>ys=(kETo f).sem [e 0],[]⟩ e:=by
 refine ⟨trivial,fun a1 _=>⟨?_,fun a2 _=>?_⟩⟩
 ·show e 1<bP
  rw [show e 1=wideOf bP from a1];exact (wide_lt bP_pos).2
 ·show [e 97]=[toE (e 0)]
  rw [show e 97=montv bP (e 1) (e 0) from a2,show e 1=wideOf bP from a1,E_to]
def tEFrom:Tree:=(.req 0 [.var 0,.lit 1]
(.lett 1 .num (.app 0 0 [.var 0,.lit 1])
(.ret [.var 1])))
theorem law_eFrom (f1 f:FuncId) (e:Nat->Int) (hk:kkHas [.num] [e 0]) (hp:(kEFrom f).pre [e 0]):tEFrom.says [kEMont f1] ⟨fun ys=>ys=(kEFrom f).sem [e 0],[]⟩ e:=by
 have u0:e 0<bP:=hp
 refine ⟨u0,fun a1 _=>?_⟩
 show [e 1]=[ofE (e 0)]
 rw [show e 1=montv bP (e 0) 1 from a1,E_from]
end Go.Sx

namespace Go.Sx
open Go Go.RowKit
set_option maxRecDepth 100000
theorem lim_inj {x y:Int} (hx:0<=x/\x<N384) (hy:0<=y/\y<N384) (h:lim x 0=lim y 0/\lim x 1=lim y 1/\lim x 2=lim y 2/\lim x 3=lim y 3/\lim x 4=lim y 4/\lim x 5=lim y 5):x=y:=by
 have:=lim_eq hx
 have:=lim_eq hy
 omega
theorem c_num {e:Nat->Int} {v:Int} {i j:Nat} (h:v=(D.eqs [(.limb i 0,.limb j 0),(.limb i 1,.limb j 1),(.limb i 2,.limb j 2),(.limb i 3,.limb j 3),(.limb i 4,.limb j 4),(.limb i 5,.limb j 5)]).ev [] e) (hi:0<=e i/\e i<N384) (hj:0<=e j/\e j<N384):(v=1/\e i=e j)∨(v=0/\¬ e i=e j):=by
 simp only [D.ev,List.all_cons,List.all_nil,ev_limb,Bool.and_true,b2i_bi,Bool.and_eq_true,beq_iff_eq] at h
 by_cases hc:e i=e j
 ·left;rw [hc] at h;simp at h;exact ⟨h,hc⟩
 ·right
  rw [if_neg (fun hh=>hc (lim_inj hi hj hh))] at h
  exact ⟨h,hc⟩
theorem c_num0 {e:Nat->Int} {v:Int} {i:Nat} (h:v=(D.eqs [(.limb i 0,.lit 0),(.limb i 1,.lit 0),(.limb i 2,.lit 0),(.limb i 3,.lit 0),(.limb i 4,.lit 0),(.limb i 5,.lit 0)]).ev [] e) (hi:0<=e i/\e i<N384):(v=1/\e i=0)∨(v=0/\¬ e i=0):=by
 simp only [D.ev,List.all_cons,List.all_nil,ev_limb,ev_lit,Bool.and_true,b2i_bi,Bool.and_eq_true,beq_iff_eq] at h
 by_cases hc:e i=0
 ·left;rw [hc] at h;simp [lim] at h;exact ⟨h,hc⟩
 ·right
  rw [if_neg (fun hh=>hc (by have:=lim_eq hi;omega))] at h
  exact ⟨h,hc⟩
def tOrder:Tree:=(.lett 1 .bit (.cmp .eql (.var 0) (.lit 0))
(.split 1
(.ret [.lit 52435875175126190479447740508185965837690552500527637822603658699938581184513])
(.lett 2 .bit (.cmp .eql (.var 0) (.lit 1))
(.split 2
 (.ret [.lit 65521])
 (.lett 3 .bit (.cmp .eql (.var 0) (.lit 2))
 (.split 3
 (.ret [.lit 72057594037927889])
 (.ret [.lit 0])))))))
theorem law_order (f:FuncId) (e:Nat->Int) (hk:kkHas [.int .i64] [e 0]) (hp:(kOrder f).pre [e 0]):tOrder.says [] ⟨fun ys=>ys=(kOrder f).sem [e 0],[]⟩ e:=by
 obtain ⟨p0,p1⟩:=hp
 simp only [tOrder,kOrder,Tree.says,List.getElem?_cons_zero,List.getElem?_cons_succ,List.map,ev_lit,ev_var,ev_limb,D.ev,List.getD_cons_zero,List.getD_cons_succ]
 intro a1 _
 have b1:=c_eq a1
 refine ⟨fun n=>?_,fun n=>?_⟩
 ·have:e 0=0:=by omega
  rw [this];rfl
 intro a2 _
 have b2:=c_eq a2
 refine ⟨fun n=>?_,fun n=>?_⟩
 ·have:e 0=1:=by omega
  rw [this];rfl
 intro a3 _
 have b3:=c_eq a3
 refine ⟨fun n=>?_,fun n=>?_⟩
 ·have:e 0=2:=by omega
  rw [this];rfl
 ·omega
theorem cmp_ge {a b v w:Int} (h:v=if a<b then -1 else if a=b then 0 else 1) (hw:w=b2i (cmpE .geq v 0)):(w=1/\b<=a)∨(w=0/\a<b):=by
 have:=c_ge hw
 split at h
 ·omega
 ·split at h <;> omega
theorem cmp_lt {a b v w:Int} (h:v=if a<b then -1 else if a=b then 0 else 1) (hw:w=b2i (cmpE .lss v 0)):(w=1/\a<b)∨(w=0/\b<=a):=by
 have:=c_lt hw
 split at h
 ·omega
 ·split at h <;> omega
def tShR1:Tree:=(.lett 1 (.int .u64) (.bin .shl .u64 (.limb 0 1) (.lit 63))
(.lett 386 (.int .u64) (.bin .shr .u64 (.limb 0 0) (.lit 1))
(.lett 434 (.int .u64) (.bin .or .u64 (.var 1) (.var 386))
(.lett 578 (.int .u64) (.bin .shl .u64 (.limb 0 2) (.lit 63))
(.lett 963 (.int .u64) (.bin .shr .u64 (.limb 0 1) (.lit 1))
(.lett 1011 (.int .u64) (.bin .or .u64 (.var 578) (.var 963))
(.lett 1155 (.int .u64) (.bin .shl .u64 (.limb 0 3) (.lit 63))
(.lett 1540 (.int .u64) (.bin .shr .u64 (.limb 0 2) (.lit 1))
(.lett 1588 (.int .u64) (.bin .or .u64 (.var 1155) (.var 1540))
(.lett 1732 (.int .u64) (.bin .shl .u64 (.limb 0 4) (.lit 63))
(.lett 2117 (.int .u64) (.bin .shr .u64 (.limb 0 3) (.lit 1))
(.lett 2165 (.int .u64) (.bin .or .u64 (.var 1732) (.var 2117))
(.lett 2309 (.int .u64) (.bin .shl .u64 (.limb 0 5) (.lit 63))
(.lett 2694 (.int .u64) (.bin .shr .u64 (.limb 0 4) (.lit 1))
(.lett 2742 (.int .u64) (.bin .or .u64 (.var 2309) (.var 2694))
(.lett 3270 (.int .u64) (.bin .shr .u64 (.limb 0 5) (.lit 1))
(.lett 3318 (.int .u64) (.bin .or .u64 (.lit 0) (.var 3270))
(.lett 3462 .num (.join [.var 434,.var 1011,.var 1588,.var 2165,.var 2742,.var 3318])
(.ret [.var 3462])))))))))))))))))))
theorem law_shR1 (f:FuncId) (e:Nat->Int) (hk:kkHas [.num] [e 0]):tShR1.says [] ⟨fun ys=>ys=(kShR1 f).sem [e 0],[]⟩ e:=by
 have h0:=hk.1
 have z:=U_lim e
 simp only [tShR1,kShR1,Tree.says,List.getElem?_cons_zero,List.getElem?_cons_succ,List.map,ev_lit,ev_var,ev_limb,D.ev,List.getD_cons_zero,List.getD_cons_succ]
 intro s1 _ r1 _ o1 _ s2 _ r2 _ o2 _ s3 _ r3 _ o3 _ s4 _ r4 _ o4 _ s5 _ r5 _ o5 _ r6 _ o6 _ aj _
 have hj:=half_join h0 (or_63 o1 s1 r1 (z _ _) (z _ _)) (or_63 o2 s2 r2 (z _ _) (z _ _)) (or_63 o3 s3 r3 (z _ _) (z _ _)) (or_63 o4 s4 r4 (z _ _) (z _ _)) (or_63 o5 s5 r5 (z _ _) (z _ _)) (or_0 o6 r6 (z _ _))
 rw [<- aj] at hj
 rw [hj]
end Go.Sx

namespace Go.Sx
open Go Go.RowKit
set_option maxRecDepth 100000
def decT (lvl n m:Nat) (k:Nat->A->Tree):Tree :=
 (.lett m (.int .u64) (.bin .sub .u64 (.var n) (.lit 1))
 (.lett (m+1) (.int .u64) (.bin .add .u64 (.var (n+1)) (.var 10))
 (.lett (m+2) .bit (.cmp .geq (.var (m+1)) (.lit 4294967296))
 (.split (m+2) (k (m+3) (.var m)) (.back lvl [.var m,.var (m+1)])))))
def digT (lvl n w:Nat) (q0 r0:A) (k:Nat->A->Tree):Tree :=
 (.loop [q0,r0] [(.int .u64),(.int .u64)] n
 (.lett (n+2) .bit (.cmp .geq (.var n) (.lit 4294967296))
 (.split (n+2) (decT lvl n (n+3) k)
 (.lett (n+3) (.int .u64) (.bin .mul .u64 (.var n) (.var 11))
 (.lett (n+4) (.int .u64) (.bin .mul .u64 (.lit 4294967296) (.var (n+1)))
 (.lett (n+5) (.int .u64) (.bin .add .u64 (.var (n+4)) (.var w))
 (.lett (n+6) .bit (.cmp .gtr (.var (n+3)) (.var (n+5)))
 (.split (n+6) (decT lvl n (n+7) k) (k (n+7) (.var n))))))))))
def k2T (c:Nat) (q1:A) (b:Nat) (q0:A):Tree :=
 (.lett b (.int .u64) (.bin .mul .u64 q1 (.lit 4294967296))
 (.lett (b+1) (.int .u64) (.bin .add .u64 (.var b) q0)
 (.lett (b+2) (.int .u64) (.bin .mul .u64 (.var (c+3)) (.lit 4294967296))
 (.lett (b+3) (.int .u64) (.bin .add .u64 (.var (b+2)) (.var 18))
 (.lett (b+4) (.int .u64) (.bin .mul .u64 q0 (.var 9))
 (.lett (b+5) (.int .u64) (.bin .sub .u64 (.var (b+3)) (.var (b+4)))
 (.lett (b+6) (.int .u64) (.bin .shr .u64 (.var (b+5)) (.var 8))
 (.ret [.var (b+1),.var (b+6)]))))))))
def k1T (b:Nat) (q1:A):Tree :=
 (.lett b (.int .u64) (.bin .mul .u64 (.var 15) (.lit 4294967296))
 (.lett (b+1) (.int .u64) (.bin .add .u64 (.var b) (.var 17))
 (.lett (b+2) (.int .u64) (.bin .mul .u64 q1 (.var 9))
 (.lett (b+3) (.int .u64) (.bin .sub .u64 (.var (b+1)) (.var (b+2)))
 (.lett (b+4) (.int .u64) (.bin .quo .u64 (.var (b+3)) (.var 10))
 (.nz (.var 10)
 (.lett (b+5) (.int .u64) (.bin .mul .u64 (.var (b+4)) (.var 10))
 (.lett (b+6) (.int .u64) (.bin .sub .u64 (.var (b+3)) (.var (b+5)))
 (digT 1 (b+7) 18 (.var (b+4)) (.var (b+6)) (k2T b q1))))))))))
def tDiv64:Tree :=
(.lett 3 .bit (.cmp .eql (.var 2) (.lit 0))
(.split 3
 (.bad 41 "bits.go:520")
 (.lett 4 .bit (.cmp .leq (.var 2) (.var 0))
 (.split 4
  (.bad 41 "bits.go:523")
  (.lett 5 .bit (.cmp .eql (.var 0) (.lit 0))
  (.split 5
  (.lett 102 (.int .u64) (.bin .quo .u64 (.var 1) (.var 2))
  (.nz (.var 2)
  (.lett 246 (.int .u64) (.bin .rem .u64 (.var 1) (.var 2))
  (.nz (.var 2)
  (.ret [.var 102,.var 246])))))
  (.req 0 [.var 2]
  (.lett 6 (.int .i64) (.app 0 0 [.var 2])
  (.lett 7 (.int .i64) (.bin .sub .i64 (.lit 64) (.var 6))
  (.lett 8 (.int .u64) (.conv .u64 (.var 7))
  (.lett 9 (.int .u64) (.bin .shl .u64 (.var 2) (.var 8))
  (.lett 10 (.int .u64) (.bin .shr .u64 (.var 9) (.lit 32))
  (.lett 11 (.int .u64) (.bin .and .u64 (.var 9) (.lit 4294967295))
  (.lett 12 (.int .u64) (.bin .shl .u64 (.var 0) (.var 8))
  (.lett 13 (.int .u64) (.bin .sub .u64 (.lit 64) (.var 8))
  (.lett 14 (.int .u64) (.bin .shr .u64 (.var 1) (.var 13))
  (.lett 15 (.int .u64) (.bin .or .u64 (.var 12) (.var 14))
  (.lett 16 (.int .u64) (.bin .shl .u64 (.var 1) (.var 8))
  (.lett 17 (.int .u64) (.bin .shr .u64 (.var 16) (.lit 32))
  (.lett 18 (.int .u64) (.bin .and .u64 (.var 16) (.lit 4294967295))
  (.lett 19 (.int .u64) (.bin .quo .u64 (.var 15) (.var 10))
  (.nz (.var 10)
  (.lett 20 (.int .u64) (.bin .mul .u64 (.var 19) (.var 10))
  (.lett 21 (.int .u64) (.bin .sub .u64 (.var 15) (.var 20))
   (digT 0 22 17 (.var 19) (.var 21) k1T)))))))))))))))))))))))))
def DigI (X0 Y y1 u:Int):List Int->Prop
 | [q,r]=>q*y1+r=X0/\0<=r/\r<4294967296/\X0*4294967296+u<(q+1)*Y/\0<=q/\q<=4294967297
 | _=>False
theorem dig_div {X Y q:Int} (hY:0<Y) (h1:q*Y<=X) (h2:X<(q+1)*Y):q=X/Y:=by
 have a1:=Int.le_ediv_of_mul_le hY h1
 have a2:=Int.ediv_lt_of_lt_mul hY h2
 omega
theorem digT_says {T:List K} {G:Gl} {e:Nat->Int} {lvl n w:Nat} {q0 r0:A} {k:Nat->A->Tree} {X0 Y:Int} (hn:19<=n) (hwn:w<n) (h10:e 10=Y/4294967296) (h11:e 11=Y%4294967296) (hY:9223372036854775808<=Y/\Y<18446744073709551616)
  (hD:0<=X0/\X0<Y) (hu:0<=e w/\e w<4294967296) (hq:q0.ev e=X0/(Y/4294967296)) (hr:r0.ev e=X0%(Y/4294967296)) (hl:G.stk.length=lvl)
  (hk:∀ (e':Nat->Int) (b q:Nat) (G':Gl),(∀ i,i<n->e' i=e i)->e' q=(X0*4294967296+e w)/Y->G'.goal=G.goal->G'.stk.length=lvl+1->n<=q->q<b->(k b (.var q)).says T G' e'):(digT lvl n w q0 r0 k).says T G e:=by
 refine ⟨DigI X0 Y (Y/4294967296) (e w),fun | [q,_]=>q.toNat | _=>0,?_,fun e' he hkk hI=>?_⟩
 ·show DigI X0 Y (Y/4294967296) (e w) [q0.ev e,r0.ev e]
  rw [hq,hr]
  have hy1:2147483648<=Y/4294967296/\Y/4294967296<4294967296:=by omega
  have hm:=Int.emod_add_mul_ediv X0 (Y/4294967296)
  have hlt:=Int.emod_lt_of_pos X0 (show 0<Y/4294967296 by omega)
  have hnn:=Int.emod_nonneg X0 (show Y/4294967296≠0 by omega)
  have hq0:0<=X0/(Y/4294967296):=Int.ediv_nonneg hD.1 (by omega)
  rw [Int.mul_comm (Y/4294967296)] at hm
  generalize X0/(Y/4294967296)=q at *
  generalize X0%(Y/4294967296)=r at *
  have hYe:Y=Y/4294967296*4294967296+Y%4294967296:=by omega
  have hy0:0<=Y%4294967296/\Y%4294967296<4294967296:=by omega
  generalize Y/4294967296=y1 at *
  generalize Y%4294967296=y0 at *
  have e1:(q+1)*Y=4294967296*(q*y1)+4294967296*y1+(q+1)*y0:=by rw [hYe];grind
  have e2:0<=(q+1)*y0:=Int.mul_nonneg (by omega) hy0.1
  refine ⟨by omega,hnn,by omega,by omega,hq0,?_⟩
  by_cases hc:q<=4294967297
  ·exact hc
  ·exfalso
   have h1:4294967298*y1<=q*y1:=Int.mul_le_mul_of_nonneg_right (by omega) (by omega)
   omega
 ·obtain ⟨i1,i2,i3,i4,i5,i6⟩:DigI X0 Y (Y/4294967296) (e w) [e' n,e' (n+1)]:=hI
  have m10:e' 10=Y/4294967296:=(he 10 (by omega)).trans h10
  have m11:e' 11=Y%4294967296:=(he 11 (by omega)).trans h11
  have mw:e' w=e w:=he w hwn
  have hy1:2147483648<=Y/4294967296/\Y/4294967296<4294967296:=by omega
  have hYe:Y=Y/4294967296*4294967296+Y%4294967296:=by omega
  have hy0:0<=Y%4294967296/\Y%4294967296<4294967296:=by omega
  have dec:∀ m,n+3<=m->X0*4294967296+e w<e' n*Y->1<=e' n ->
    (decT lvl n m k).says T {G with stk:=G.stk++[fun us=>DigI X0 Y (Y/4294967296) (e w) us/\(match us with | [q,_]=>q.toNat | _=>0)<(match seqE e' n 2 with | [q,_]=>q.toNat | _=>0)] } e':=by
   intro m hm hX hq1 a1 _ a2 _ a3 _
   simp only [D.ev,ev_var,ev_lit,binE,wr] at a1 a2
   have b3:=c_ge a3
   simp only [ev_var,ev_lit] at b3
   rw [m10] at a2
   have hq':e' m=e' n-1:=by rw [a1];omega
   have hr':e' (m+1)=e' (n+1)+Y/4294967296:=by rw [a2];omega
   generalize Y/4294967296=y1 at *
   generalize Y%4294967296=y0 at *
   have e1:(e' n-1)*Y=4294967296*(e' n*y1)-4294967296*y1+(e' n-1)*y0:=by rw [hYe];grind
   have e2:(e' n-1)*y1=e' n*y1-y1:=by grind
   refine ⟨fun hs=>?_,fun hs=>?_⟩
   ·refine hk e' (m+3) m _ (fun i hi=>he i hi) ?_ rfl (by simp [hl]) (by omega) (by omega)
    show e' m=_
    rw [hq']
    have e3:(e' n-1)*y0<=4294967296*4294967295:=Int.mul_le_mul (by omega) (by omega) hy0.1 (by omega)
    exact dig_div (by omega) (by omega) (by rw [Int.sub_add_cancel];exact hX)
   ·show match (G.stk++[_])[lvl]? with | some R=>R ([A.var m,A.var (m+1)].map (·.ev e')) | none=>False
    rw [<- hl,List.getElem?_append_right (Nat.le_refl _)]
    simp only [Nat.sub_self,List.getElem?_cons_zero,List.map,ev_var]
    show DigI X0 Y y1 (e w) [e' m,e' (m+1)]/\(e' m).toNat<(e' n).toNat
    rw [hq',hr']
    refine ⟨⟨?_,by omega,by omega,by rw [Int.sub_add_cancel];exact hX,by omega,by omega⟩,by omega⟩
    omega
  intro a2 _
  have b2:=c_ge a2
  simp only [ev_var,ev_lit] at b2
  have eY:e' n*Y=4294967296*(e' n*(Y/4294967296))+e' n*(Y%4294967296):=by
   generalize Y/4294967296=y1 at *
   generalize Y%4294967296=y0 at *
   rw [hYe];grind
  refine ⟨fun hs=>?_,fun hs=>?_⟩
  ·refine dec (n+3) (by omega) ?_ (by omega)
   have:4294967296*Y<=e' n*Y:=Int.mul_le_mul_of_nonneg_right (by omega) (by omega)
   omega
  ·intro a3 _ a4 _ a5 _ a6 _
   simp only [D.ev,ev_var,ev_lit,binE,wr] at a3 a4 a5
   have b6:=c_gt a6
   simp only [ev_var,ev_lit] at b6
   rw [m11] at a3
   rw [mw] at a5
   have p0:0<=e' n*(Y%4294967296)/\e' n*(Y%4294967296)<=4294967295*4294967295:=⟨Int.mul_nonneg i5 hy0.1,Int.mul_le_mul (by omega) (by omega) hy0.1 (by omega)⟩
   have c3:e' (n+3)=e' n*(Y%4294967296):=by rw [a3];exact Int.emod_eq_of_lt p0.1 (by omega)
   have c5:e' (n+5)=4294967296*e' (n+1)+e w:=by rw [a5,a4];omega
   refine ⟨fun hs2=>?_,fun hs2=>?_⟩
   ·refine dec (n+7) (by omega) (by omega) ?_
    by_cases hc:1<=e' n
    ·exact hc
    ·exfalso
     have:e' n=0:=by omega
     rw [this] at c3
     omega
   ·refine hk e' (n+7) n _ (fun i hi=>he i hi) ?_ rfl (by simp [hl]) (by omega) (by omega)
    show e' n=_
    exact dig_div (by omega) (by omega) i4
theorem pow_split {s:Nat} (hs:s<=64):(2:Int)^s*2^(64-s)=18446744073709551616:=by
 rw [<- Int.pow_add,show s+(64-s)=64 by omega];decide +kernel
set_option maxHeartbeats 4000000 in
theorem law_div64 (f1 f:FuncId) (e:Nat->Int) (hk:kkHas [.int .u64,.int .u64,.int .u64] [e 0,e 1,e 2]) (hp:(kDiv64 f).pre [e 0,e 1,e 2]):tDiv64.says [kLen64 f1] ⟨fun ys=>ys=(kDiv64 f).sem [e 0,e 1,e 2],[]⟩ e:=by
 obtain ⟨h0,h1,h2,_⟩:=hk
 have u0:=has_u64 h0
 have u1:=has_u64 h1
 have u2:=has_u64 h2
 have hlt:e 0<e 2:=hp
 unfold tDiv64
 intro a3 _
 have b3:=c_eq a3
 simp only [ev_var,ev_lit] at b3
 refine ⟨fun n=>by omega,fun n=>?_⟩
 intro a4 _
 have b4:=c_le a4
 simp only [ev_var,ev_lit] at b4
 refine ⟨fun n=>by omega,fun n=>?_⟩
 intro a5 _
 have b5:=c_eq a5
 simp only [ev_var,ev_lit] at b5
 refine ⟨fun n=>?_,fun n=>?_⟩
 ·intro a6 _
  refine ⟨by show e 2≠0;omega,?_⟩
  intro a7 _
  refine ⟨by show e 2≠0;omega,?_⟩
  simp only [D.ev,ev_var,binE,wr] at a6 a7
  rw [Int.tdiv_eq_ediv_of_nonneg u1.1] at a6
  rw [Int.tmod_eq_emod_of_nonneg u1.1] at a7
  have hle:=Int.ediv_le_self (e 2) u1.1
  have hnn:=Int.ediv_nonneg u1.1 u2.1
  show [e 102,e 246]=[(e 0*18446744073709551616+e 1)/e 2,(e 0*18446744073709551616+e 1)%e 2]
  rw [show e 0=0 by omega,Int.zero_mul,Int.zero_add,a6,a7,Int.emod_eq_of_lt hnn (by omega)]
 ·have hy:1<=e 2:=by omega
  refine ⟨trivial,?_⟩
  intro a6 _ a7 _ a8 _ a9 _ a10 _ a11 _ a12 _ a13 _ a14 _ a15 _ a16 _ a17 _ a18 _ a19 _
  have c6:e 6=blen (e 2):=a6
  have hb0:1<=blen (e 2):=by rw [blen_1 hy];have:=blen_nn (e 2/2);omega
  have hb1:blen (e 2)<=64:=blen_le 64 _ u2.1 (by rw [p64'];exact u2.2)
  have c7:e 7=64-blen (e 2):=by rw [a7];simp only [D.ev,ev_var,ev_lit,binE,wr];omega
  have c8:e 8=64-blen (e 2):=by rw [a8];simp only [D.ev,ev_var,wr];omega
  obtain ⟨s,hs⟩:=Int.eq_ofNat_of_zero_le (show 0<=e 8 by omega)
  have hs64:s<=63:=by omega
  have hP:=pow_split (s:=s) (by omega)
  have hp1:(0:Int)<2^s:=Int.pow_pos (by decide)
  have hp2:(0:Int)<2^(64-s):=Int.pow_pos (by decide)
  have hyu:e 2<2^(64-s):=by
   by_cases hc:e 2<2^(64-s)
   ·exact hc
   ·have:=blen_gt (64-s) (e 2) (by omega);omega
  have hyl:(2:Int)^(63-s)<=e 2:=by
   by_cases hc:(2:Int)^(63-s)<=e 2
   ·exact hc
   ·have:=blen_le (63-s) (e 2) u2.1 (by omega);omega
  have hP2:(2:Int)^s*2^(63-s)=9223372036854775808:=by
   rw [<- Int.pow_add,show s+(63-s)=63 by omega];decide +kernel
  have hYu:e 2*2^s<18446744073709551616:=by
   rw [<- hP,Int.mul_comm];exact Int.mul_lt_mul_of_pos_left hyu hp1
  have hYl:9223372036854775808<=e 2*2^s:=by
   rw [<- hP2,Int.mul_comm (e 2)];exact Int.mul_le_mul_of_nonneg_left hyl (by omega)
  have hshl:∀ {v x:Int},v=binE .shl .u64 x (e 8)->v=x*2^s%18446744073709551616:=by
   intro v x h
   rw [h,hs];simp only [binE]
   rw [show min ((s:Int).toNat) IntKind.u64.bits=s by show min s 64=s;omega,Int.natCast_pow];rfl
  have c9:e 9=e 2*2^s:=by
   have h:=hshl a9
   simp only [ev_var] at h
   rw [h];exact Int.emod_eq_of_lt (by omega) hYu
  have c10:e 10=e 9/4294967296:=shr_e a10
  have c11:e 11=e 9%4294967296:=and_32 a11 (by constructor <;> omega)
  have hhi:e 0*2^s<=e 2*2^s-2^s:=by
   have:=Int.mul_le_mul_of_nonneg_right (show e 0<=e 2-1 by omega) (show (0:Int)<=2^s by omega)
   rw [Int.sub_mul,Int.one_mul] at this;exact this
  have hhi0:0<=e 0*2^s:=Int.mul_nonneg u0.1 (by omega)
  have c12:e 12=e 0*2^s:=by
   have h:=hshl a12
   simp only [ev_var] at h
   rw [h];exact Int.emod_eq_of_lt hhi0 (by omega)
  have c13:e 13=((64-s:Nat):Int):=by rw [a13];simp only [D.ev,ev_var,ev_lit,binE,wr];rw [hs];omega
  have c14:e 14=e 1/2^(64-s):=by
   rw [a14];simp only [D.ev,ev_var,binE]
   rw [c13,show min (((64-s:Nat):Int).toNat) IntKind.u64.bits=64-s by show min (64-s) 64=_;omega,Int.natCast_pow]
   exact Int.fdiv_eq_ediv_of_nonneg _ (by exact Int.le_of_lt hp2)
  have hlo:e 1/2^(64-s)<2^s:=Int.ediv_lt_of_lt_mul hp2 (by rw [hP];exact u1.2)
  have hlo0:0<=e 1/2^(64-s):=Int.ediv_nonneg u1.1 (by omega)
  have c15:e 15=e 0*2^s+e 1/2^(64-s):=by
   rw [<- c12,<- c14]
   exact or_dis (k:=s) (q:=e 0) a15 (by rw [c12,Int.natCast_pow];rfl) u0.1 (by rw [c14,Int.natCast_pow];exact ⟨hlo0,hlo⟩) (by rw [c12,c14];omega)
  have c16:e 16=e 1*2^s%18446744073709551616:=hshl a16
  have c17:e 17=e 16/4294967296:=shr_e a17
  have c18:e 18=e 16%4294967296:=and_32 a18 (by constructor <;> omega)
  have htot:(e 0*18446744073709551616+e 1)*2^s=e 15*18446744073709551616+e 16:=by
   have h1:e 1*2^s=e 1/2^(64-s)*18446744073709551616+e 1%2^(64-s)*2^s:=by
    have hm:=Int.emod_add_mul_ediv (e 1) (2^(64-s))
    conv=>lhs;rw [<- hm]
    rw [<- hP];grind
   have h2:0<=e 1%2^(64-s)*2^s:=Int.mul_nonneg (Int.emod_nonneg _ (by omega)) (by omega)
   have h3:e 1%2^(64-s)*2^s<18446744073709551616:=by
    rw [<- hP,Int.mul_comm];exact Int.mul_lt_mul_of_pos_left (Int.emod_lt_of_pos _ hp2) hp1
   have h4:e 16=e 1%2^(64-s)*2^s:=by
    rw [c16];exact md_eq (e 1/2^(64-s)) (by rw [h1];omega) h2 h3
   rw [c15,h4,Int.add_mul,h1,Int.add_mul]
   rw [Int.mul_right_comm];omega
  have hD:0<=e 15/\e 15<e 9:=by omega
  have hy1:2147483648<=e 10:=by omega
  simp only [D.ev,ev_var,binE,wr] at a19
  rw [Int.tdiv_eq_ediv_of_nonneg hD.1] at a19
  have hqn:0<=e 15/e 10:=Int.ediv_nonneg hD.1 (by omega)
  have hql:e 15/e 10<=e 15:=Int.ediv_le_self _ hD.1
  have c19:e 19=e 15/e 10:=by rw [a19];exact Int.emod_eq_of_lt hqn (by omega)
  have hmm:=Int.emod_add_mul_ediv (e 15) (e 10)
  have hml:=Int.emod_lt_of_pos (e 15) (show 0<e 10 by omega)
  have hmn:=Int.emod_nonneg (e 15) (show e 10≠0 by omega)
  have hpn:0<=e 10*(e 15/e 10):=Int.mul_nonneg (by omega) hqn
  refine ⟨by show e 10≠0;omega,?_⟩
  intro a20 _ a21 _
  simp only [D.ev,ev_var,binE,wr] at a20 a21
  have c20:e 20=e 10*(e 15/e 10):=by rw [a20,c19,Int.mul_comm];exact Int.emod_eq_of_lt (by omega) (by omega)
  have c21:e 21=e 15%e 10:=by rw [a21,c20];rw [show e 15-e 10*(e 15/e 10)=e 15%e 10 by omega];exact Int.emod_eq_of_lt hmn (by omega)
  clear a6 a7 a8 a9 a10 a11 a12 a13 a14 a15 a16 a17 a18 a19 a20 a21 hshl
  rw [<- c9] at hYu hYl
  rw [c10] at c19 c21
  refine digT_says (T:=[kLen64 f1]) (X0:=e 15) (Y:=e 9) (by decide) (by decide) c10 c11 ⟨hYl,hYu⟩ hD (by omega) c19 c21 rfl fun e1 b qa G1 he1 hqa hG1 hS1 hqa0 hb=>?_
  have g:∀ i,i<22->e1 i=e i:=he1
  have hX0:0<=e 15*4294967296+e 17:=by omega
  have hQ1:0<=e1 qa:=by rw [hqa];exact Int.ediv_nonneg hX0 (by omega)
  have hQ1l:e1 qa<4294967296:=by rw [hqa];exact Int.ediv_lt_of_lt_mul (by omega) (by omega)
  have hR1:=Int.emod_add_mul_ediv (e 15*4294967296+e 17) (e 9)
  have hR1l:=Int.emod_lt_of_pos (e 15*4294967296+e 17) (show 0<e 9 by omega)
  have hR1n:=Int.emod_nonneg (e 15*4294967296+e 17) (show e 9≠0 by omega)
  rw [<- hqa] at hR1
  generalize (e 15*4294967296+e 17)%e 9=R1 at *
  unfold k1T
  intro a1 _ a2 _ a3 _ a4 _ a5 _
  simp only [D.ev,ev_var,ev_lit,binE,wr] at a1 a2 a3 a4 a5
  rw [g 15 (by decide)] at a1
  rw [g 17 (by decide)] at a2
  rw [g 9 (by decide)] at a3
  rw [Int.mul_comm (e 9)] at hR1
  generalize hQY:e1 qa*e 9=QY at *
  have d4:e1 (b+3)=R1:=by rw [a4,a3,a2,a1];omega
  rw [d4,Int.tdiv_eq_ediv_of_nonneg hR1n,g 10 (by decide)] at a5
  have hy1':0<e 10:=by omega
  have hrn:0<=R1/e 10:=Int.ediv_nonneg hR1n (by omega)
  have hrl:R1/e 10<=R1:=Int.ediv_le_self _ hR1n
  have d5:e1 (b+4)=R1/e 10:=by rw [a5];exact Int.emod_eq_of_lt hrn (by omega)
  refine ⟨by show e1 10≠0;rw [g 10 (by decide)];omega,?_⟩
  intro a6 _ a7 _
  simp only [D.ev,ev_var,ev_lit,binE,wr] at a6 a7
  rw [g 10 (by decide),d5] at a6
  have nmm:=Int.emod_add_mul_ediv R1 (e 10)
  have nml:=Int.emod_lt_of_pos R1 hy1'
  have nmn:=Int.emod_nonneg R1 (show e 10≠0 by omega)
  have npn:0<=e 10*(R1/e 10):=Int.mul_nonneg (by omega) hrn
  have d6:e1 (b+5)=e 10*(R1/e 10):=by rw [a6,Int.mul_comm];exact Int.emod_eq_of_lt (by omega) (by omega)
  have d7:e1 (b+6)=R1%e 10:=by rw [a7,d4,d6];rw [show R1-e 10*(R1/e 10)=R1%e 10 by omega];exact Int.emod_eq_of_lt nmn (by omega)
  refine digT_says (X0:=R1) (Y:=e 9) (by omega) (by omega) (by rw [g 10 (by decide)];exact c10) (by rw [g 11 (by decide)];exact c11) ⟨hYl,hYu⟩ ⟨hR1n,hR1l⟩ (by rw [g 18 (by decide)];omega) (by rw [<- c10];exact d5) (by rw [<- c10];exact d7) hS1 fun e2 b2 qb G2 he2 hqb hG2 hS2 hqb0 hb2=>?_
  have gg:∀ i,i<22->e2 i=e i:=fun i hi=>(he2 i (by omega)).trans (g i hi)
  rw [g 18 (by decide)] at hqb
  have hX1:0<=R1*4294967296+e 18:=by omega
  have hQ2:0<=e2 qb:=by rw [hqb];exact Int.ediv_nonneg hX1 (by omega)
  have hQ2l:e2 qb<4294967296:=by rw [hqb];exact Int.ediv_lt_of_lt_mul (by omega) (by omega)
  have hR2:=Int.emod_add_mul_ediv (R1*4294967296+e 18) (e 9)
  have hR2l:=Int.emod_lt_of_pos (R1*4294967296+e 18) (show 0<e 9 by omega)
  have hR2n:=Int.emod_nonneg (R1*4294967296+e 18) (show e 9≠0 by omega)
  rw [<- hqb] at hR2
  generalize (R1*4294967296+e 18)%e 9=R2 at *
  have hqe:e2 qa=e1 qa:=he2 qa (by omega)
  unfold k2T
  intro f1 _ f2 _ f3 _ f4 _ f5 _ f6 _ f7 _
  simp only [D.ev,ev_var,ev_lit,binE,wr] at f1 f2 f3 f4 f5 f6 f7
  rw [hqe] at f1
  rw [he2 (b+3) (by omega),d4] at f3
  rw [gg 18 (by decide)] at f4
  rw [gg 9 (by decide),Int.mul_comm] at f5
  have hXt:(e 0*18446744073709551616+e 1)*2^s=(e1 qa*4294967296+e2 qb)*e 9+R2:=by
   rw [htot]
   have h16:e 16=e 17*4294967296+e 18:=by omega
   rw [Int.add_mul,Int.mul_right_comm,hQY,Int.mul_comm (e2 qb)]
   omega
  generalize e 9*e2 qb=QZ at *
  have d6':e2 (b2+5)=R2:=by rw [f6,f5,f4,f3];omega
  have d2':e2 (b2+1)=e1 qa*4294967296+e2 qb:=by rw [f2,f1];omega
  rw [d6',gg 8 (by decide),hs,show min ((s:Int).toNat) IntKind.u64.bits=s by show min s 64=s;omega,Int.natCast_pow] at f7
  rw [Int.fdiv_eq_ediv_of_nonneg _ (by exact Int.le_of_lt hp1)] at f7
  show G2.goal [e2 (b2+1),e2 (b2+6)]
  rw [hG2,hG1]
  show [e2 (b2+1),e2 (b2+6)]=[(e 0*18446744073709551616+e 1)/e 2,(e 0*18446744073709551616+e 1)%e 2]
  rw [d2',f7]
  rw [c9] at hXt
  generalize e 0*18446744073709551616+e 1=X at *
  generalize e1 qa*4294967296+e2 qb=q at *
  have hr:R2=2^s*(X-q*e 2):=by rw [Int.mul_sub,Int.mul_comm _ X,hXt];grind
  have hr0:0<=X-q*e 2:=by
   by_cases hc:0<=X-q*e 2
   ·exact hc
   ·have:=Int.mul_neg_of_pos_of_neg hp1 (show X-q*e 2<0 by omega);omega
  have hr1:X-q*e 2<e 2:=by
   have:2^s*(X-q*e 2)<2^s*e 2:=by rw [<- hr,Int.mul_comm _ (e 2),<- c9];exact hR2l
   exact Int.lt_of_mul_lt_mul_left this (Int.le_of_lt hp1)
  have hq:X/e 2=q:=(dig_div (by omega) (by omega) (by rw [Int.add_mul];omega)).symm
  have hm:X%e 2=X-q*e 2:=md_eq q (by rw [Int.mul_comm q];omega) hr0 hr1
  rw [hq,hm]
  congr 2
  rw [hr]
  exact Int.mul_ediv_cancel_left _ (by exact Int.ne_of_gt hp1)
def tRem64:Tree:=(.lett 3 (.int .u64) (.bin .rem .u64 (.var 0) (.var 2))
(.nz (.var 2)
(.req 0 [.var 3,.var 1,.var 2]
(.lett 4 (.int .u64) (.app 0 0 [.var 3,.var 1,.var 2])
(.lett 5 (.int .u64) (.app 0 1 [.var 3,.var 1,.var 2])
(.ret [.var 5]))))))
theorem law_rem64 (f1 f:FuncId) (e:Nat->Int) (hk:kkHas [.int .u64,.int .u64,.int .u64] [e 0,e 1,e 2]) (hp:(kRem64 f).pre [e 0,e 1,e 2]):tRem64.says [kDiv64 f1] ⟨fun ys=>ys=(kRem64 f).sem [e 0,e 1,e 2],[]⟩ e:=by
 obtain ⟨h0,h1,h2,_⟩:=hk
 have u0:=has_u64 h0
 have hy:0<e 2:=hp
 simp only [tRem64,kDiv64,kRem64,Tree.says,List.getElem?_cons_zero,List.getElem?_cons_succ,List.map,ev_lit,ev_var,ev_limb,D.ev,List.getD_cons_zero,List.getD_cons_succ]
 intro a3 _
 have c3:e 3=e 0%e 2:=by rw [a3];simp only [binE];exact Int.tmod_eq_emod_of_nonneg u0.1
 refine ⟨by omega,by rw [c3];exact Int.emod_lt_of_pos _ hy,fun a4 _ a5 _=>?_⟩
 rw [a5,c3]
 congr 1
 obtain ⟨z,hz⟩:=md_of (x:=e 0) (n:=e 2)
 exact md (z*18446744073709551616) (by rw [hz];grind)
def roundF (im ia b:Nat) (x low n0 y0 y1 y2 y3 y4 y5 n1 n2 n3 n4 n5 t0 t1 t2 t3 t4 t5 t6:A) (k:A->A->A->A->A->A->A->Tree):Tree :=
 macsT im ia x [(y0,t0,b,b+2,b+5),(y1,t1,b+8,b+10,b+13),(y2,t2,b+16,b+18,b+21),(y3,t3,b+24,b+26,b+29),(y4,t4,b+32,b+34,b+37),(y5,t5,b+40,b+42,b+45)] (.lit 0) fun c =>
 .req ia [t6,c,.lit 0] (.lett (b+48) (.int .u64) (.app ia 0 [t6,c,.lit 0]) (.lett (b+49) (.int .u64) (.app ia 1 [t6,c,.lit 0])
 (.lett (b+338) (.int .u64) (.bin .add .u64 (.lit 0) (.var (b+49)))
 (.lett (b+530) (.int .u64) (.bin .mul .u64 (.var (b+5)) low)
 (macsT im ia (.var (b+530)) [(n0,.var (b+5),b+531,b+533,b+536),(n1,.var (b+13),b+539,b+541,b+544),(n2,.var (b+21),b+547,b+549,b+552),(n3,.var (b+29),b+555,b+557,b+560),(n4,.var (b+37),b+563,b+565,b+568),(n5,.var (b+45),b+571,b+573,b+576)] (.lit 0) fun c' =>
 .req ia [.var (b+48),c',.lit 0] (.lett (b+579) (.int .u64) (.app ia 0 [.var (b+48),c',.lit 0]) (.lett (b+580) (.int .u64) (.app ia 1 [.var (b+48),c',.lit 0])
 (.lett (b+869) (.int .u64) (.bin .add .u64 (.var (b+338)) (.var (b+580)))
 (k (.var (b+544)) (.var (b+552)) (.var (b+560)) (.var (b+568)) (.var (b+576)) (.var (b+579)) (.var (b+869)))))))))))
theorem roundF_arith {xB qN qn0 qJ V jl l0 j5 t6 c s6 c7 s7 j2 o0 jr c' t5' c'' t6' jt:Int}
  (hqz:(qn0+l0)%18446744073709551616=0) (hqN:qN=qn0+18446744073709551616*qJ) (hj2:j2=o0+18446744073709551616*jr) (uo:U o0)
  (hV:V=jt+N384*t6) (u6:U t6) (hjl:jl=l0+18446744073709551616*j5) (ul:U l0) (uc:U c) (uc':U c')
  (S1:jl+N384*c=xB+jt+0) (a1:s6=(t6+c+0)%18446744073709551616) (a2:c7=(t6+c+0)/18446744073709551616) (a3:s7=wr .u64 (0+c7))
  (S2:j2+N384*c'=qN+jl+0)
  (b1:t5'=(s6+c'+0)%18446744073709551616) (b2:c''=(s6+c'+0)/18446744073709551616) (b3:t6'=wr .u64 (s7+c'')) :
  18446744073709551616*(jr+2135987035920910082395021706169552114602704522356652769947041607822219725780640550022962086936576*t5'+N384*t6')=V+xB+qN/\U t5'/\0<=t6'/\t6'<=2:=by
 unfold U N384 at *
 simp only [wr] at *
 omega
section
variable {T:List K} {f g:FuncId} {im ia b:Nat} {G:Gl} {e:Nat->Int}
theorem roundF_says {x low n0 y0 y1 y2 y3 y4 y5 n1 n2 n3 n4 n5 t0 t1 t2 t3 t4 t5 t6:A} {k:A->A->A->A->A->A->A->Tree} {B N V:Int} (hm:T[im]?=some (kMul64 f)) (ha:T[ia]?=some (kAdd64 g)) (bx:U (x.ev e))
  (hy:AllU e [y0,y1,y2,y3,y4,y5]) (hn:AllU e [n0,n1,n2,n3,n4,n5]) (ht:AllU e [t0,t1,t2,t3,t4,t5,t6])
  (hB:B=jo e [y0,y1,y2,y3,y4,y5]) (hN:N=jo e [n0,n1,n2,n3,n4,n5]) (hV:V=jo e [t0,t1,t2,t3,t4,t5]+N384*t6.ev e) (hVB:V<B+N)
  (hl:n0.ev e*low.ev e%18446744073709551616=18446744073709551615)
  (hk:∀ V' q,AllU e [.var (b+544),.var (b+552),.var (b+560),.var (b+568),.var (b+576),.var (b+579),.var (b+869)] ->
   V'=jo e [.var (b+544),.var (b+552),.var (b+560),.var (b+568),.var (b+576),.var (b+579)]+N384*e (b+869)->V'<B+N->0<=V'->0<=q/\q<18446744073709551616->18446744073709551616*V'=V+x.ev e*B+q*N ->
   (k (.var (b+544)) (.var (b+552)) (.var (b+560)) (.var (b+568)) (.var (b+576)) (.var (b+579)) (.var (b+869))).says T G e) :
  (roundF im ia b x low n0 y0 y1 y2 y3 y4 y5 n1 n2 n3 n4 n5 t0 t1 t2 t3 t4 t5 t6 k).says T G e:=by
 unfold roundF
 obtain ⟨ht0,ht1,ht2,ht3,ht4,ht5,ht6,_⟩:=ht
 have hz0:U ((A.lit 0).ev e):=by show U 0;unfold U;omega
 refine macsT_says hm ha bx _ _ _ hy ⟨ht0,ht1,ht2,ht3,ht4,ht5,trivial⟩ hz0 fun g1 g2 g3=>?_
 simp only [List.map,outC,List.length_cons,List.length_nil,AllU,ev_var] at g1 g2 g3
 obtain ⟨l0,l1,l2,l3,l4,l5,_⟩:=g1
 simp only [outC]
 refine ⟨by simp only [ha,kAdd64,List.map,ev_lit];omega,fun a1 _ a2 _ a3 _ a4 k4=>?_⟩
 have k4':U (e (b+530)):=has_u64 k4
 refine macsT_says hm ha (by exact k4') _ _ _ hn ⟨l0,l1,l2,l3,l4,l5,trivial⟩ hz0 fun p1 p2 p3=>?_
 simp only [List.map,outC,List.length_cons,List.length_nil,AllU,ev_var] at p1 p2 p3
 obtain ⟨r0,r1,r2,r3,r4,r5,_⟩:=p1
 simp only [outC]
 refine ⟨by simp only [ha,kAdd64,List.map,ev_lit];omega,fun b1 _ b2 _ b3 _=>?_⟩
 simp only [D.ev,ha,hm,kAdd64,kMul64,List.map,List.getD_cons_zero,List.getD_cons_succ,ev_var,ev_lit,binE] at a1 a2 a3 a4 b1 b2 b3
 have hz:=q_zero a4 hl
 have e6:pw64 (0+1+1+1+1+1+1)=N384:=by decide +kernel
 rw [e6,show (A.lit 0).ev e=0 from rfl] at g3 p3
 have hqN:e (b+530)*jo e [n0,n1,n2,n3,n4,n5]=e (b+530)*n0.ev e+18446744073709551616*(e (b+530)*jo e [n1,n2,n3,n4,n5]):=by
  rw [show jo e [n0,n1,n2,n3,n4,n5]=n0.ev e+18446744073709551616*jo e [n1,n2,n3,n4,n5] from rfl,Int.mul_add,Int.mul_left_comm]
 obtain ⟨s1,s2,s3,s4⟩:=roundF_arith (jr:=jo e [.var (b+544),.var (b+552),.var (b+560),.var (b+568),.var (b+576)]) hz hqN rfl r0 hV ht6 (by simp only [jo];rfl) l0 g2 p2 g3 a1 a2 a3 p3 b1 b2 b3
 have hB0:0<=B:=by
  obtain ⟨z0,z1,z2,z3,z4,z5,_⟩:=hy
  unfold U at z0 z1 z2 z3 z4 z5
  rw [hB];simp only [jo];omega
 have hN0:0<=N:=by
  obtain ⟨z0,z1,z2,z3,z4,z5,_⟩:=hn
  unfold U at z0 z1 z2 z3 z4 z5
  rw [hN];simp only [jo];omega
 have s1':18446744073709551616*(jo e [.var (b+544),.var (b+552),.var (b+560),.var (b+568),.var (b+576),.var (b+579)]+N384*e (b+869))=V+A.ev e x*B+e (b+530)*N:=by
  rw [hB,hN,<- s1]
  simp only [jo,ev_var];omega
 have m1:A.ev e x*B<=18446744073709551615*B:=Int.mul_le_mul_of_nonneg_right (by have:=bx.2;omega) hB0
 have m2:e (b+530)*N<=18446744073709551615*N:=Int.mul_le_mul_of_nonneg_right (by have:=k4'.2;omega) hN0
 refine hk _ _ ⟨r1,r2,r3,r4,r5,s2,by exact ⟨s3,by show e (b+869)<_;omega⟩,trivial⟩ rfl ?_ ?_ k4' s1'
 ·generalize jo e [.var (b+544),.var (b+552),.var (b+560),.var (b+568),.var (b+576),.var (b+579)]+N384*e (b+869)=V' at *
  omega
 ·unfold U at r1 r2 r3 r4 r5 s2
  have s3':0<=e (b+869):=s3
  unfold N384
  simp only [jo,ev_var];omega
end
def tFMontR (i b:Nat) (t0 t1 t2 t3 t4 t5 t6:A) (k:A->A->A->A->A->A->A->Tree):Tree :=
 roundF 1 0 b (.limb 3 i) (.var 1) (.limb 0 0) (.limb 4 0) (.limb 4 1) (.limb 4 2) (.limb 4 3) (.limb 4 4) (.limb 4 5) (.limb 0 1) (.limb 0 2) (.limb 0 3) (.limb 0 4) (.limb 0 5) t0 t1 t2 t3 t4 t5 t6 k
def tFMont:Tree :=
 tFMontR 0 293 (.lit 0) (.lit 0) (.lit 0) (.lit 0) (.lit 0) (.lit 0) (.lit 0) fun t0 t1 t2 t3 t4 t5 t6 =>
 tFMontR 1 1642 t0 t1 t2 t3 t4 t5 t6 fun t0 t1 t2 t3 t4 t5 t6 =>
 tFMontR 2 2991 t0 t1 t2 t3 t4 t5 t6 fun t0 t1 t2 t3 t4 t5 t6 =>
 tFMontR 3 4340 t0 t1 t2 t3 t4 t5 t6 fun t0 t1 t2 t3 t4 t5 t6 =>
 tFMontR 4 5689 t0 t1 t2 t3 t4 t5 t6 fun t0 t1 t2 t3 t4 t5 t6 =>
 tFMontR 5 7038 t0 t1 t2 t3 t4 t5 t6 fun t0 t1 t2 t3 t4 t5 t6 =>
 (.lett 8099 .bit (.cmp .neq t6 (.lit 0))
 (.split 8099
 (.lett 8100 .num (.join [t0,t1,t2,t3,t4,t5])
 (.req 3 [.var 8100,.var 0]
 (.lett 8101 .num (.app 3 0 [.var 8100,.var 0])
 (.lett 8102 .bit (.app 3 1 [.var 8100,.var 0])
 (.ret [.var 8101])))))
 (.lett 8100 .num (.join [t0,t1,t2,t3,t4,t5])
 (.req 2 [.var 8100,.var 0]
 (.lett 8101 (.int .i64) (.app 2 0 [.var 8100,.var 0])
 (.lett 8102 .bit (.cmp .geq (.var 8101) (.lit 0))
 (.split 8102
 (.lett 8103 .num (.join [t0,t1,t2,t3,t4,t5])
 (.req 3 [.var 8103,.var 0]
 (.lett 8104 .num (.app 3 0 [.var 8103,.var 0])
 (.lett 8105 .bit (.app 3 1 [.var 8103,.var 0])
 (.ret [.var 8104])))))
 (.lett 8103 .num (.join [t0,t1,t2,t3,t4,t5])
 (.ret [.var 8103])))))))))
theorem law_fMont (f1 f2 f3 f4 f:FuncId) (e:Nat->Int) (hk:kkHas [.num,.int .u64,.num,.num,.num] [e 0,e 1,e 2,e 3,e 4]) (hp:(kFMont f).pre [e 0,e 1,e 2,e 3,e 4]) :
  tFMont.says [kAdd64 f1,kMul64 f2,kWCmp f3,kWSub f4] ⟨fun ys=>ys=(kFMont f).sem [e 0,e 1,e 2,e 3,e 4],[]⟩ e:=by
 obtain ⟨h0,h1,h2,h3,h4,_⟩:=hk
 obtain ⟨⟨hl,hn3,hn2⟩,hab⟩:=hp
 have hx:∀ i j,U ((A.limb i j).ev e):=U_lim e
 have hb6:=jo6 h4 e 4 rfl
 have hn6:=jo6 h0 e 0 rfl
 have hB:AllU e [.limb 4 0,.limb 4 1,.limb 4 2,.limb 4 3,.limb 4 4,.limb 4 5]:=⟨hx _ _,hx _ _,hx _ _,hx _ _,hx _ _,hx _ _,trivial⟩
 have hN:AllU e [.limb 0 0,.limb 0 1,.limb 0 2,.limb 0 3,.limb 0 4,.limb 0 5]:=⟨hx _ _,hx _ _,hx _ _,hx _ _,hx _ _,hx _ _,trivial⟩
 have hl0:(A.limb 0 0).ev e*(A.var 1).ev e%18446744073709551616=18446744073709551615:=low0 hl
 have hz:U ((A.lit 0).ev e):=by show U 0;unfold U;omega
 unfold tFMont tFMontR
 refine roundF_says (V:=0) rfl rfl (hx _ _) hB hN ⟨hz,hz,hz,hz,hz,hz,hz,trivial⟩ hb6.symm hn6.symm (by simp only [jo,ev_lit];omega) (by have:=h4.1;omega) hl0 fun V1 q0 t1 v1 b1 _ k1 E1=>?_
 refine roundF_says rfl rfl (hx _ _) hB hN t1 hb6.symm hn6.symm v1 b1 hl0 fun V2 q1 t2 v2 b2 _ k2 E2=>?_
 refine roundF_says rfl rfl (hx _ _) hB hN t2 hb6.symm hn6.symm v2 b2 hl0 fun V3 q2 t3 v3 b3 _ k3 E3=>?_
 refine roundF_says rfl rfl (hx _ _) hB hN t3 hb6.symm hn6.symm v3 b3 hl0 fun V4 q3 t4 v4 b4 _ k4 E4=>?_
 refine roundF_says rfl rfl (hx _ _) hB hN t4 hb6.symm hn6.symm v4 b4 hl0 fun V5 q4 t5 v5 b5 _ k5 E5=>?_
 refine roundF_says rfl rfl (hx _ _) hB hN t5 hb6.symm hn6.symm v5 b5 hl0 fun V6 q5 t6 v6 b6 p6 k6 E6=>?_
 have ha:e 3=wd (lim (e 3) 0) (lim (e 3) 1) (lim (e 3) 2) (lim (e 3) 3) (lim (e 3) 4) (lim (e 3) 5):=lim_eq h3
 have fin:=mont_fin E1 E2 E3 E4 E5 E6 ha
 have hq:=wd_lt k1 k2 k3 k4 k5 k6
 have hlt:=mont_lt h3 h4 hq hn3 hab fin
 have hmv:=montv_of (odd_of hl) fin
 have h22:(2:Int)^382=9850501549098619803069760025035903451269934817616361666987073351061430442874302652853566563721228910201656997576704:=by decide +kernel
 obtain ⟨u0,u1,u2,u3,u4,u5,u6,_⟩:=t6
 have hv6:e 7907=0/\V6=jo e [.var 7582,.var 7590,.var 7598,.var 7606,.var 7614,.var 7617]:=by
  have hj:0<=jo e [.var 7582,.var 7590,.var 7598,.var 7606,.var 7614,.var 7617]:=by
   have w0:U (e 7582):=u0
   have w1:U (e 7590):=u1
   have w2:U (e 7598):=u2
   have w3:U (e 7606):=u3
   have w4:U (e 7614):=u4
   have w5:U (e 7617):=u5
   unfold U at w0 w1 w2 w3 w4 w5
   simp only [jo,ev_var];omega
  have hu:0<=e 7907:=u6.1
  rw [h22] at hn2
  have hv6':V6=jo e [.var 7582,.var 7590,.var 7598,.var 7606,.var 7614,.var 7617]+N384*e 7907:=v6
  generalize jo e [.var 7582,.var 7590,.var 7598,.var 7606,.var 7614,.var 7617]=J at *
  unfold N384 at hv6'
  omega
 have hN2:2*e 0<N384:=by rw [h22] at hn2;unfold N384;omega
 have hjn:joinE ([A.var 7582,.var 7590,.var 7598,.var 7606,.var 7614,.var 7617].map (·.ev e))=V6:=by rw [hv6.2];exact jo_join e _
 intro c1 _
 have d1:(e 8099=1/\¬ e 7907=0)∨(e 8099=0/\e 7907=0):=c_ne c1
 refine ⟨fun hs=>by omega,fun _=>?_⟩
 intro c2 _
 have c2':e 8100=V6:=c2.trans hjn
 refine ⟨trivial,fun c3 _ c4 _=>?_⟩
 have d4:=cmp_ge (show e 8101=if e 8100<e 0 then -1 else if e 8100=e 0 then 0 else 1 from c3) (show e 8102=b2i (cmpE .geq (e 8101) 0) from c4)
 refine ⟨fun hs=>?_,fun hs=>?_⟩
 ·intro c5 _
  have c5':e 8103=V6:=c5.trans hjn
  refine ⟨trivial,fun c6 _ c7 _=>?_⟩
  have c6':e 8104=(e 8103-e 0)%N384:=c6
  show [e 8104]=[montv (e 0) (e 3) (e 4)]
  rw [c6',c5',<- hmv,Int.emod_eq_of_lt (by omega) (by omega)]
  congr 1
  exact (md_eq 1 (by omega) (by omega) (by omega)).symm
 ·intro c5 _
  have c5':e 8103=V6:=c5.trans hjn
  show [e 8103]=[montv (e 0) (e 3) (e 4)]
  rw [c5',<- hmv]
  congr 1
  exact (Int.emod_eq_of_lt p6 (by omega)).symm
def rCmp:Tree:=(.lett 290 .bit (.cmp .lss (.limb 0 5) (.limb 1 5))
(.split 290
(.ret [.lit (-1)])
(.lett 626 .bit (.cmp .gtr (.limb 0 5) (.limb 1 5))
(.split 626
 (.ret [.lit 1])
 (.lett 962 .bit (.cmp .lss (.limb 0 4) (.limb 1 4))
 (.split 962
 (.ret [.lit (-1)])
 (.lett 1298 .bit (.cmp .gtr (.limb 0 4) (.limb 1 4))
 (.split 1298
 (.ret [.lit 1])
 (.lett 1634 .bit (.cmp .lss (.limb 0 3) (.limb 1 3))
 (.split 1634
 (.ret [.lit (-1)])
 (.lett 1970 .bit (.cmp .gtr (.limb 0 3) (.limb 1 3))
 (.split 1970
 (.ret [.lit 1])
 (.lett 2306 .bit (.cmp .lss (.limb 0 2) (.limb 1 2))
 (.split 2306
 (.ret [.lit (-1)])
 (.lett 2642 .bit (.cmp .gtr (.limb 0 2) (.limb 1 2))
 (.split 2642
 (.ret [.lit 1])
 (.lett 2978 .bit (.cmp .lss (.limb 0 1) (.limb 1 1))
 (.split 2978
 (.ret [.lit (-1)])
 (.lett 3314 .bit (.cmp .gtr (.limb 0 1) (.limb 1 1))
 (.split 3314
 (.ret [.lit 1])
 (.lett 3650 .bit (.cmp .lss (.limb 0 0) (.limb 1 0))
 (.split 3650
 (.ret [.lit (-1)])
 (.lett 3986 .bit (.cmp .gtr (.limb 0 0) (.limb 1 0))
 (.split 3986
 (.ret [.lit 1])
 (.ret [.lit 0])))))))))))))))))))))))))
theorem law_rCmp (f2:FuncId) (e:Nat->Int) (hk:kkHas [.num,.num] [e 0,e 1]):rCmp.says [] ⟨fun ys=>ys=(kWCmp f2).sem [e 0,e 1],[]⟩ e:=by
 obtain ⟨ha,hb,_⟩:=hk
 have ea:=lim_eq ha
 have eb:=lim_eq hb
 have a0:=lim_lt (e 0) 0
 have a1:=lim_lt (e 0) 1
 have a2:=lim_lt (e 0) 2
 have a3:=lim_lt (e 0) 3
 have a4:=lim_lt (e 0) 4
 have a5:=lim_lt (e 0) 5
 have b0:=lim_lt (e 1) 0
 have b1:=lim_lt (e 1) 1
 have b2:=lim_lt (e 1) 2
 have b3:=lim_lt (e 1) 3
 have b4:=lim_lt (e 1) 4
 have b5:=lim_lt (e 1) 5
 simp only [rCmp,kWCmp,Tree.says,List.getElem?_cons_zero,List.map,ev_lit,ev_var,ev_limb,D.ev,List.getD_cons_zero,List.getD_cons_succ,KK.has,joinE6]
 generalize lim (e 0) 0=x0 at *
 generalize lim (e 0) 1=x1 at *
 generalize lim (e 0) 2=x2 at *
 generalize lim (e 0) 3=x3 at *
 generalize lim (e 0) 4=x4 at *
 generalize lim (e 0) 5=x5 at *
 generalize lim (e 1) 0=y0 at *
 generalize lim (e 1) 1=y1 at *
 generalize lim (e 1) 2=y2 at *
 generalize lim (e 1) 3=y3 at *
 generalize lim (e 1) 4=y4 at *
 generalize lim (e 1) 5=y5 at *
 intro h _
 have k0a:=c_lt h
 refine ⟨fun n=>by rw [if_pos (by omega)],fun n=>?_⟩
 clear h
 intro h _
 have k0b:=c_gt h
 refine ⟨fun m=>by rw [if_neg (by omega),if_neg (by omega)],fun m=>?_⟩
 have z0:x5=y5:=by omega
 clear h k0a k0b n m
 intro h _
 have k1a:=c_lt h
 refine ⟨fun n=>by rw [if_pos (by omega)],fun n=>?_⟩
 clear h
 intro h _
 have k1b:=c_gt h
 refine ⟨fun m=>by rw [if_neg (by omega),if_neg (by omega)],fun m=>?_⟩
 have z1:x4=y4:=by omega
 clear h k1a k1b n m
 intro h _
 have k2a:=c_lt h
 refine ⟨fun n=>by rw [if_pos (by omega)],fun n=>?_⟩
 clear h
 intro h _
 have k2b:=c_gt h
 refine ⟨fun m=>by rw [if_neg (by omega),if_neg (by omega)],fun m=>?_⟩
 have z2:x3=y3:=by omega
 clear h k2a k2b n m
 intro h _
 have k3a:=c_lt h
 refine ⟨fun n=>by rw [if_pos (by omega)],fun n=>?_⟩
 clear h
 intro h _
 have k3b:=c_gt h
 refine ⟨fun m=>by rw [if_neg (by omega),if_neg (by omega)],fun m=>?_⟩
 have z3:x2=y2:=by omega
 clear h k3a k3b n m
 intro h _
 have k4a:=c_lt h
 refine ⟨fun n=>by rw [if_pos (by omega)],fun n=>?_⟩
 clear h
 intro h _
 have k4b:=c_gt h
 refine ⟨fun m=>by rw [if_neg (by omega),if_neg (by omega)],fun m=>?_⟩
 have z4:x1=y1:=by omega
 clear h k4a k4b n m
 intro h _
 have k5a:=c_lt h
 refine ⟨fun n=>by rw [if_pos (by omega)],fun n=>?_⟩
 clear h
 intro h _
 have k5b:=c_gt h
 refine ⟨fun m=>by rw [if_neg (by omega),if_neg (by omega)],fun m=>?_⟩
 have z5:x0=y0:=by omega
 clear h k5a k5b n m
 rw [if_neg (by omega),if_pos (by omega)]
theorem q0:p64 0=1:=by decide +kernel
theorem q1:p64 1=18446744073709551616:=by decide +kernel
theorem q2:p64 2=340282366920938463463374607431768211456:=by decide +kernel
theorem q3:p64 3=6277101735386680763835789423207666416102355444464034512896:=by decide +kernel
theorem q4:p64 4=115792089237316195423570985008687907853269984665640564039457584007913129639936:=by decide +kernel
theorem q5:p64 5=2135987035920910082395021706169552114602704522356652769947041607822219725780640550022962086936576:=by decide +kernel
theorem q6:p64 6=N384:=by decide +kernel
theorem p64_pos (k:Nat):0<p64 k:=by unfold p64;exact Int.natCast_pos.2 (Nat.two_pow_pos _)
theorem mod_next (a:Int) (k:Nat):a%p64 (k+1)=a%p64 k+p64 k*lim a k:=by
 unfold lim
 have hp:=p64_pos k
 have h1:=Int.emod_add_mul_ediv a (p64 k)
 have h2:=Int.emod_add_mul_ediv (a/p64 k) 18446744073709551616
 have h3:=md_lt (x:=a) hp
 have h4:=md_lt (x:=a/p64 k) (n:=18446744073709551616) (by decide)
 have h5:=p64_s k
 generalize a/p64 k/18446744073709551616=z at *
 generalize hl:a/p64 k%18446744073709551616=l at *
 have h6:p64 k*l<=p64 k*18446744073709551615:=Int.mul_le_mul_of_nonneg_left (by omega) (by omega)
 have h7:0<=p64 k*l:=Int.mul_nonneg (by omega) h4.1
 refine md_eq z ?_ (by omega) (by rw [h5];omega)
 rw [h5,<- h1,<- h2]
 have h8:(a%p64 k+p64 k*(l+18446744073709551616*z))%p64 k=a%p64 k:=by
  rw [Int.add_mul_emod_self_left];exact Int.emod_emod_of_dvd _ (Int.dvd_refl _)
 rw [h8];grind
theorem put_join {x o o0 o1 o2 o3 o4 o5:Int} {i:Int} {k:Nat} (hi:i=k) (hk:k<6) (hx:0<=x/\x<N384) (hlt:x<p64 k) (h0:o0=if i=((0:Nat):Int) then o else lim x 0) (h1:o1=if i=((1:Nat):Int) then o else lim x 1)
  (h2:o2=if i=((2:Nat):Int) then o else lim x 2) (h3:o3=if i=((3:Nat):Int) then o else lim x 3) (h4:o4=if i=((4:Nat):Int) then o else lim x 4) (h5:o5=if i=((5:Nat):Int) then o else lim x 5) :
  joinE [o0,o1,o2,o3,o4,o5]=x+o*p64 k:=by
 subst hi
 have ex:=lim_eq hx
 have l0:=lim_lt x 0
 have l1:=lim_lt x 1
 have l2:=lim_lt x 2
 have l3:=lim_lt x 3
 have l4:=lim_lt x 4
 have l5:=lim_lt x 5
 rw [joinE6]
 generalize lim x 0=x0 at *
 generalize lim x 1=x1 at *
 generalize lim x 2=x2 at *
 generalize lim x 3=x3 at *
 generalize lim x 4=x4 at *
 generalize lim x 5=x5 at *
 have:k=0∨k=1∨k=2∨k=3∨k=4∨k=5:=by omega
 rcases this with h | h | h | h | h | h <;> subst h
 ·rw [q0] at *;simp at h0 h1 h2 h3 h4 h5;omega
 ·rw [q1] at *;simp at h0 h1 h2 h3 h4 h5;omega
 ·rw [q2] at *;simp at h0 h1 h2 h3 h4 h5;omega
 ·rw [q3] at *;simp at h0 h1 h2 h3 h4 h5;omega
 ·rw [q4] at *;simp at h0 h1 h2 h3 h4 h5;omega
 ·rw [q5] at *;simp at h0 h1 h2 h3 h4 h5;omega
theorem sel6 (x:Int) {i:Int} {k:Nat} (hi:i=k) (hk:k<6):([lim x 0,lim x 1,lim x 2,lim x 3,lim x 4,lim x 5]:List Int).getD i.toNat 0=lim x k:=by
 subst hi
 have:k=0∨k=1∨k=2∨k=3∨k=4∨k=5:=by omega
 rcases this with h | h | h | h | h | h <;> subst h <;> rfl
theorem sel6p {o0 o1 o2 o3 o4 o5 o x:Int} {i:Int} {k:Nat} (hi:i=k) (hk:k<6) (h0:o0=if i=((0:Nat):Int) then o else lim x 0) (h1:o1=if i=((1:Nat):Int) then o else lim x 1)
  (h2:o2=if i=((2:Nat):Int) then o else lim x 2) (h3:o3=if i=((3:Nat):Int) then o else lim x 3) (h4:o4=if i=((4:Nat):Int) then o else lim x 4) (h5:o5=if i=((5:Nat):Int) then o else lim x 5):([o0,o1,o2,o3,o4,o5]:List Int).getD i.toNat 0=o:=by
 subst hi
 have:k=0∨k=1∨k=2∨k=3∨k=4∨k=5:=by omega
 rcases this with h | h | h | h | h | h <;> subst h <;> simp at h0 h1 h2 h3 h4 h5 <;> simp_all
def AddI (a b:Int):List Int->Prop
 | [i,c,x]=>∃ k:Nat,i=k/\k<=6/\0<=c/\c<=1/\0<=x/\x<p64 k/\x+c*p64 k=a%p64 k+b%p64 k
 | _=>False
def SubI (a b:Int):List Int->Prop
 | [i,c,x]=>∃ k:Nat,i=k/\k<=6/\0<=c/\c<=1/\0<=x/\x<p64 k/\x-c*p64 k=a%p64 k-b%p64 k
 | _=>False
def cntM:List Int->Nat
 | i::_=>(6-i).toNat
 | _=>0
theorem add_step {a b x c o c':Int} {k:Nat} (uo:U o) (hx0:0<=x) (hx:x<p64 k) (hi:x+c*p64 k=a%p64 k+b%p64 k) (ho:o+c'*18446744073709551616=lim a k+lim b k+c) :
  0<=x+o*p64 k/\x+o*p64 k<p64 (k+1)/\(x+o*p64 k)+c'*p64 (k+1)=a%p64 (k+1)+b%p64 (k+1):=by
 have hp:=p64_pos k
 have h1:o*p64 k<=18446744073709551615*p64 k:=Int.mul_le_mul_of_nonneg_right (by have:=uo.2;omega) (by omega)
 have h2:0<=o*p64 k:=Int.mul_nonneg uo.1 (by omega)
 rw [mod_next,mod_next,p64_s]
 refine ⟨by omega,by omega,?_⟩
 generalize p64 k=P at *
 have h3:(o+c'*18446744073709551616)*P=(lim a k+lim b k+c)*P:=by rw [ho]
 grind
theorem sub_step' {a b x c o c':Int} {k:Nat} (uo:U o) (hx0:0<=x) (hx:x<p64 k) (hi:x-c*p64 k=a%p64 k-b%p64 k) (ho:o-c'*18446744073709551616=lim a k-lim b k-c) :
  0<=x+o*p64 k/\x+o*p64 k<p64 (k+1)/\(x+o*p64 k)-c'*p64 (k+1)=a%p64 (k+1)-b%p64 (k+1):=by
 have hp:=p64_pos k
 have h1:o*p64 k<=18446744073709551615*p64 k:=Int.mul_le_mul_of_nonneg_right (by have:=uo.2;omega) (by omega)
 have h2:0<=o*p64 k:=Int.mul_nonneg uo.1 (by omega)
 rw [mod_next,mod_next,p64_s]
 refine ⟨by omega,by omega,?_⟩
 generalize p64 k=P at *
 have h3:(o-c'*18446744073709551616)*P=(lim a k-lim b k-c)*P:=by rw [ho]
 grind
def tRefAdd:Tree:=(.loop [.lit 0,.lit 0,.lit 0] [(.int .i64),(.int .u64),.num] 2
(.lett 5 .bit (.cmp .lss (.var 2) (.lit 6))
(.split 5
(.lett 54 .bit (.cmp .leq (.lit 0) (.var 2))
(.lett 55 .bit (.cmp .lss (.var 2) (.lit 6))
(.nz (.var 54)
(.nz (.var 55)
(.lett 102 (.int .u64) (.sel (.var 2) [.limb 0 0,.limb 0 1,.limb 0 2,.limb 0 3,.limb 0 4,.limb 0 5])
(.lett 198 .bit (.cmp .leq (.lit 0) (.var 2))
(.lett 199 .bit (.cmp .lss (.var 2) (.lit 6))
(.nz (.var 198)
(.nz (.var 199)
(.lett 246 (.int .u64) (.sel (.var 2) [.limb 1 0,.limb 1 1,.limb 1 2,.limb 1 3,.limb 1 4,.limb 1 5])
(.lett 294 (.int .u64) (.bin .add .u64 (.var 102) (.var 246))
(.lett 390 .bit (.cmp .leq (.lit 0) (.var 2))
(.lett 391 .bit (.cmp .lss (.var 2) (.lit 6))
(.nz (.var 390)
(.nz (.var 391)
(.lett 392 (.int .u64) (.sel (.var 2) [.limb 0 0,.limb 0 1,.limb 0 2,.limb 0 3,.limb 0 4,.limb 0 5])
(.lett 393 .bit (.cmp .lss (.var 294) (.var 392))
(.lett 394 (.int .u64) (.bin .add .u64 (.var 294) (.var 3))
(.lett 395 .bit (.cmp .leq (.lit 0) (.var 2))
(.lett 396 .bit (.cmp .lss (.var 2) (.lit 6))
(.nz (.var 395)
(.nz (.var 396)
(.lett 397 (.int .u64) (.put (.var 2) 0 (.var 394) (.limb 4 0))
(.lett 398 (.int .u64) (.put (.var 2) 1 (.var 394) (.limb 4 1))
(.lett 399 (.int .u64) (.put (.var 2) 2 (.var 394) (.limb 4 2))
(.lett 400 (.int .u64) (.put (.var 2) 3 (.var 394) (.limb 4 3))
(.lett 401 (.int .u64) (.put (.var 2) 4 (.var 394) (.limb 4 4))
(.lett 402 (.int .u64) (.put (.var 2) 5 (.var 394) (.limb 4 5))
(.lett 403 .bit (.cmp .leq (.lit 0) (.var 2))
(.lett 404 .bit (.cmp .lss (.var 2) (.lit 6))
(.nz (.var 403)
(.nz (.var 404)
(.lett 405 (.int .u64) (.sel (.var 2) [.var 397,.var 398,.var 399,.var 400,.var 401,.var 402])
(.lett 406 .bit (.cmp .lss (.var 405) (.var 294))
(.split 406
 (.lett 407 (.int .i64) (.bin .add .i64 (.var 2) (.lit 1))
 (.lett 408 .num (.join [.var 397,.var 398,.var 399,.var 400,.var 401,.var 402])
 (.back 0 [.var 407,.lit 1,.var 408])))
 (.split 393
 (.lett 407 (.int .i64) (.bin .add .i64 (.var 2) (.lit 1))
 (.lett 408 .num (.join [.var 397,.var 398,.var 399,.var 400,.var 401,.var 402])
 (.back 0 [.var 407,.lit 1,.var 408])))
 (.lett 407 (.int .i64) (.bin .add .i64 (.var 2) (.lit 1))
 (.lett 408 .num (.join [.var 397,.var 398,.var 399,.var 400,.var 401,.var 402])
 (.back 0 [.var 407,.lit 0,.var 408])))))))))))))))))))))))))))))))))))))))
(.lett 6 .bit (.cmp .eql (.var 3) (.lit 1))
(.ret [.var 4,.var 6])))))
theorem law_refAdd (f:FuncId) (e:Nat->Int) (hk:kkHas [.num,.num] [e 0,e 1]):tRefAdd.says [] ⟨fun ys=>ys=(kWAdd f).sem [e 0,e 1],[]⟩ e:=by
 obtain ⟨h0,h1,_⟩:=hk
 simp only [tRefAdd,kWAdd,Tree.says,List.getElem?_cons_zero,List.getElem?_cons_succ,List.map,ev_lit,ev_var,ev_limb,D.ev,List.getD_cons_zero,List.getD_cons_succ]
 refine ⟨AddI (e 0) (e 1),cntM,⟨0,rfl,by decide,by decide,by decide,by decide,by rw [q0];decide,by rw [q0];omega⟩,fun e' he hkk hI=>?_⟩
 obtain ⟨k,i1,i2,i3,i4,i5,i6,i7⟩:AddI (e 0) (e 1) [e' 2,e' 3,e' 4]:=hI
 obtain ⟨_,_,k3,_⟩:kkHas [.int .i64,.int .u64,.num] [e' 2,e' 3,e' 4]:=hkk
 simp only [KK.has] at k3
 intro a5 _
 have b5:=c_lt a5
 refine ⟨fun hs=>?_,fun hs=>?_⟩
 ·have hk6:k<6:=by omega
  rw [he 0 (by decide),he 1 (by decide),sel6 (e 0) i1 hk6,sel6 (e 1) i1 hk6]
  intro g1 _ g2 _
  refine ⟨bit_nz g1 (by omega),lt_nz g2 (by omega),?_⟩
  intro s1 _ g1 _ g2 _
  refine ⟨bit_nz g1 (by omega),lt_nz g2 (by omega),?_⟩
  intro s2 _ s3 _ g1 _ g2 _
  refine ⟨bit_nz g1 (by omega),lt_nz g2 (by omega),?_⟩
  intro s4 _ v1 _ s5 k5 g1 _ g2 _
  refine ⟨bit_nz g1 (by omega),lt_nz g2 (by omega),?_⟩
  intro t0 _ t1 _ t2 _ t3 _ t4 _ t5 _ g1 _ g2 _
  refine ⟨bit_nz g1 (by omega),lt_nz g2 (by omega),?_⟩
  rw [sel6p (x:=e' 4) i1 hk6 t0 t1 t2 t3 t4 t5]
  intro s6 _ v2 _
  have j:=put_join i1 hk6 k3 i6 t0 t1 t2 t3 t4 t5
  have w1:=c_lt v1
  have w2:=c_lt v2
  have la:=lim_lt (e 0) k
  have lb:=lim_lt (e 1) k
  simp only [binE,wr] at s3 s5
  have uo:U (e' 394):=has_u64 k5
  have fin:∀ c',(c'=1/\(e' 406=1∨e' 393=1)∨c'=0/\e' 406=0/\e' 393=0)->AddI (e 0) (e 1) [(k:Int)+1,c',e' 4+e' 394*p64 k]:=fun c' hc=>by
   obtain ⟨r1,r2,r3⟩:=add_step (c':=c') uo i5 i6 i7 (by unfold U at uo;clear t0 t1 t2 t3 t4 t5 j g1 g2 i7;omega)
   exact ⟨k+1,by omega,by omega,by omega,by omega,r1,r2,r3⟩
  have mm:cntM [(k:Int)+1,0,0]<cntM [(k:Int),0,0]:=by simp only [cntM];omega
  refine ⟨fun n1=>?_,fun n1=>⟨fun n2=>?_,fun n2=>?_⟩⟩
  ·intro x1 _ x2 _
   have x1':e' 407=k+1:=by rw [x1];simp only [binE,wr];omega
   show AddI (e 0) (e 1) [e' 407,1,e' 408]/\cntM [e' 407,1,e' 408]<cntM [e' 2,e' 3,e' 4]
   rw [x2,j,x1',i1]
   exact ⟨fin 1 (.inl ⟨rfl,by omega⟩),mm⟩
  ·intro x1 _ x2 _
   have x1':e' 407=k+1:=by rw [x1];simp only [binE,wr];omega
   show AddI (e 0) (e 1) [e' 407,1,e' 408]/\cntM [e' 407,1,e' 408]<cntM [e' 2,e' 3,e' 4]
   rw [x2,j,x1',i1]
   exact ⟨fin 1 (.inl ⟨rfl,by omega⟩),mm⟩
  ·intro x1 _ x2 _
   have x1':e' 407=k+1:=by rw [x1];simp only [binE,wr];omega
   show AddI (e 0) (e 1) [e' 407,0,e' 408]/\cntM [e' 407,0,e' 408]<cntM [e' 2,e' 3,e' 4]
   rw [x2,j,x1',i1]
   exact ⟨fin 0 (.inr ⟨rfl,by omega,by omega⟩),mm⟩
 ·intro a6 _
  have b6:=c_eq a6
  have hk6:k=6:=by omega
  subst hk6
  rw [q6,Int.emod_eq_of_lt h0.1 h0.2,Int.emod_eq_of_lt h1.1 h1.2] at i7
  rw [q6] at i6
  obtain ⟨r1,r2⟩:=divmod (x:=e 0+e 1) (q:=e' 3) (r:=e' 4) (m:=N384) (by rw [<- i7,Int.mul_comm]) i5 i6
  rw [r1,r2]
  congr 2
  omega
def tRefSub:Tree:=(.loop [.lit 0,.lit 0,.lit 0] [(.int .i64),(.int .u64),.num] 2
(.lett 5 .bit (.cmp .lss (.var 2) (.lit 6))
(.split 5
(.lett 54 .bit (.cmp .leq (.lit 0) (.var 2))
(.lett 55 .bit (.cmp .lss (.var 2) (.lit 6))
(.nz (.var 54)
(.nz (.var 55)
(.lett 102 (.int .u64) (.sel (.var 2) [.limb 0 0,.limb 0 1,.limb 0 2,.limb 0 3,.limb 0 4,.limb 0 5])
(.lett 198 .bit (.cmp .leq (.lit 0) (.var 2))
(.lett 199 .bit (.cmp .lss (.var 2) (.lit 6))
(.nz (.var 198)
(.nz (.var 199)
(.lett 246 (.int .u64) (.sel (.var 2) [.limb 1 0,.limb 1 1,.limb 1 2,.limb 1 3,.limb 1 4,.limb 1 5])
(.lett 294 (.int .u64) (.bin .sub .u64 (.var 102) (.var 246))
(.lett 438 .bit (.cmp .leq (.lit 0) (.var 2))
(.lett 439 .bit (.cmp .lss (.var 2) (.lit 6))
(.nz (.var 438)
(.nz (.var 439)
(.lett 486 (.int .u64) (.sel (.var 2) [.limb 0 0,.limb 0 1,.limb 0 2,.limb 0 3,.limb 0 4,.limb 0 5])
(.lett 582 .bit (.cmp .leq (.lit 0) (.var 2))
(.lett 583 .bit (.cmp .lss (.var 2) (.lit 6))
(.nz (.var 582)
(.nz (.var 583)
(.lett 630 (.int .u64) (.sel (.var 2) [.limb 1 0,.limb 1 1,.limb 1 2,.limb 1 3,.limb 1 4,.limb 1 5])
(.lett 678 .bit (.cmp .lss (.var 486) (.var 630))
(.lett 774 (.int .u64) (.bin .sub .u64 (.var 294) (.var 3))
(.lett 775 .bit (.cmp .leq (.lit 0) (.var 2))
(.lett 776 .bit (.cmp .lss (.var 2) (.lit 6))
(.nz (.var 775)
(.nz (.var 776)
(.lett 777 (.int .u64) (.put (.var 2) 0 (.var 774) (.limb 4 0))
(.lett 778 (.int .u64) (.put (.var 2) 1 (.var 774) (.limb 4 1))
(.lett 779 (.int .u64) (.put (.var 2) 2 (.var 774) (.limb 4 2))
(.lett 780 (.int .u64) (.put (.var 2) 3 (.var 774) (.limb 4 3))
(.lett 781 (.int .u64) (.put (.var 2) 4 (.var 774) (.limb 4 4))
(.lett 782 (.int .u64) (.put (.var 2) 5 (.var 774) (.limb 4 5))
(.lett 783 .bit (.cmp .lss (.var 294) (.var 3))
(.split 783
 (.lett 784 (.int .i64) (.bin .add .i64 (.var 2) (.lit 1))
 (.lett 785 .num (.join [.var 777,.var 778,.var 779,.var 780,.var 781,.var 782])
 (.back 0 [.var 784,.lit 1,.var 785])))
 (.split 678
 (.lett 784 (.int .i64) (.bin .add .i64 (.var 2) (.lit 1))
 (.lett 785 .num (.join [.var 777,.var 778,.var 779,.var 780,.var 781,.var 782])
 (.back 0 [.var 784,.lit 1,.var 785])))
 (.lett 784 (.int .i64) (.bin .add .i64 (.var 2) (.lit 1))
 (.lett 785 .num (.join [.var 777,.var 778,.var 779,.var 780,.var 781,.var 782])
 (.back 0 [.var 784,.lit 0,.var 785])))))))))))))))))))))))))))))))))))))))
(.lett 6 .bit (.cmp .eql (.var 3) (.lit 1))
(.ret [.var 4,.var 6])))))
theorem law_refSub (f:FuncId) (e:Nat->Int) (hk:kkHas [.num,.num] [e 0,e 1]):tRefSub.says [] ⟨fun ys=>ys=(kWSub f).sem [e 0,e 1],[]⟩ e:=by
 obtain ⟨h0,h1,_⟩:=hk
 simp only [tRefSub,kWSub,Tree.says,List.getElem?_cons_zero,List.getElem?_cons_succ,List.map,ev_lit,ev_var,ev_limb,D.ev,List.getD_cons_zero,List.getD_cons_succ]
 refine ⟨SubI (e 0) (e 1),cntM,⟨0,rfl,by decide,by decide,by decide,by decide,by rw [q0];decide,by rw [q0];omega⟩,fun e' he hkk hI=>?_⟩
 obtain ⟨k,i1,i2,i3,i4,i5,i6,i7⟩:SubI (e 0) (e 1) [e' 2,e' 3,e' 4]:=hI
 obtain ⟨_,_,k3,_⟩:kkHas [.int .i64,.int .u64,.num] [e' 2,e' 3,e' 4]:=hkk
 simp only [KK.has] at k3
 intro a5 _
 have b5:=c_lt a5
 refine ⟨fun hs=>?_,fun hs=>?_⟩
 ·have hk6:k<6:=by omega
  rw [he 0 (by decide),he 1 (by decide),sel6 (e 0) i1 hk6,sel6 (e 1) i1 hk6]
  intro g1 _ g2 _
  refine ⟨bit_nz g1 (by omega),lt_nz g2 (by omega),?_⟩
  intro s1 _ g1 _ g2 _
  refine ⟨bit_nz g1 (by omega),lt_nz g2 (by omega),?_⟩
  intro s2 _ s3 _ g1 _ g2 _
  refine ⟨bit_nz g1 (by omega),lt_nz g2 (by omega),?_⟩
  intro s4 _ g1 _ g2 _
  refine ⟨bit_nz g1 (by omega),lt_nz g2 (by omega),?_⟩
  intro s4' _ v1 _ s5 k5 g1 _ g2 _
  refine ⟨bit_nz g1 (by omega),lt_nz g2 (by omega),?_⟩
  intro t0 _ t1 _ t2 _ t3 _ t4 _ t5 _ v2 _
  have j:=put_join i1 hk6 k3 i6 t0 t1 t2 t3 t4 t5
  have w1:=c_lt v1
  have w2:=c_lt v2
  have la:=lim_lt (e 0) k
  have lb:=lim_lt (e 1) k
  simp only [binE,wr] at s3 s5
  have uo:U (e' 774):=has_u64 k5
  have fin:∀ c',(c'=1/\(e' 783=1∨e' 678=1)∨c'=0/\e' 783=0/\e' 678=0)->SubI (e 0) (e 1) [(k:Int)+1,c',e' 4+e' 774*p64 k]:=fun c' hc=>by
   obtain ⟨r1,r2,r3⟩:=sub_step' (c':=c') uo i5 i6 i7 (by unfold U at uo;clear t0 t1 t2 t3 t4 t5 j g1 g2 i7;omega)
   exact ⟨k+1,by omega,by omega,by omega,by omega,r1,r2,r3⟩
  have mm:cntM [(k:Int)+1,0,0]<cntM [(k:Int),0,0]:=by simp only [cntM];omega
  refine ⟨fun n1=>?_,fun n1=>⟨fun n2=>?_,fun n2=>?_⟩⟩
  ·intro x1 _ x2 _
   have x1':e' 784=k+1:=by rw [x1];simp only [binE,wr];omega
   show SubI (e 0) (e 1) [e' 784,1,e' 785]/\cntM [e' 784,1,e' 785]<cntM [e' 2,e' 3,e' 4]
   rw [x2,j,x1',i1]
   exact ⟨fin 1 (.inl ⟨rfl,by omega⟩),mm⟩
  ·intro x1 _ x2 _
   have x1':e' 784=k+1:=by rw [x1];simp only [binE,wr];omega
   show SubI (e 0) (e 1) [e' 784,1,e' 785]/\cntM [e' 784,1,e' 785]<cntM [e' 2,e' 3,e' 4]
   rw [x2,j,x1',i1]
   exact ⟨fin 1 (.inl ⟨rfl,by omega⟩),mm⟩
  ·intro x1 _ x2 _
   have x1':e' 784=k+1:=by rw [x1];simp only [binE,wr];omega
   show SubI (e 0) (e 1) [e' 784,0,e' 785]/\cntM [e' 784,0,e' 785]<cntM [e' 2,e' 3,e' 4]
   rw [x2,j,x1',i1]
   exact ⟨fin 0 (.inr ⟨rfl,by omega,by omega⟩),mm⟩
 ·intro a6 _
  have b6:=c_eq a6
  have hk6:k=6:=by omega
  subst hk6
  rw [q6,Int.emod_eq_of_lt h0.1 h0.2,Int.emod_eq_of_lt h1.1 h1.2] at i7
  rw [q6] at i6
  have r1:(e 0-e 1)%N384=e' 4:=md_eq (-(e' 3)) (by rw [<- i7];grind) i5 i6
  rw [r1]
  congr 2
  unfold bi
  have hc:e' 3=0∨e' 3=1:=by omega
  rcases hc with hc | hc <;> rw [hc] at i7 b6 <;> split <;> omega
def tRefLen:Tree:=(.loop [.lit 383] [(.int .i64)] 1
(.lett 2 .bit (.cmp .geq (.var 1) (.lit 0))
(.split 2
(.req 0 [.var 0,.var 1]
(.lett 3 (.int .i64) (.app 0 0 [.var 0,.var 1])
(.lett 4 .bit (.cmp .eql (.var 3) (.lit 1))
(.split 4
 (.lett 5 (.int .i64) (.bin .add .i64 (.var 1) (.lit 1))
 (.ret [.var 5]))
 (.lett 5 (.int .i64) (.bin .sub .i64 (.var 1) (.lit 1))
 (.back 0 [.var 5]))))))
(.ret [.lit 0]))))
def LenI (a:Int):List Int->Prop
 | [i]=>-1<=i/\i<=383/\a<2^(i+1).toNat
 | _=>False
theorem law_refLen (f1 f:FuncId) (e:Nat->Int) (hk:kkHas [.num] [e 0]):tRefLen.says [kBit f1] ⟨fun ys=>ys=(kWLen f).sem [e 0],[]⟩ e:=by
 have h0:=hk.1
 simp only [KK.has] at h0
 simp only [tRefLen,kBit,kWLen,Tree.says,List.getElem?_cons_zero,List.getElem?_cons_succ,List.map,ev_lit,ev_var,ev_limb,D.ev,List.getD_cons_zero,List.getD_cons_succ]
 refine ⟨LenI (e 0),fun | [i]=>(i+1).toNat | _=>0,⟨by decide,by decide,by rw [show ((383:Int)+1).toNat=384 from rfl,show (2:Int)^384=N384 by decide +kernel];exact h0.2⟩,fun e' he hkk hI=>?_⟩
 obtain ⟨i1,i2,i3⟩:LenI (e 0) [e' 1]:=hI
 rw [he 0 (by decide)]
 intro a2 _
 have b2:=c_ge a2
 refine ⟨fun hs=>⟨trivial,fun a3 _ a4 _=>?_⟩,fun hs=>?_⟩
 ·have b4:=c_eq a4
  obtain ⟨n,hn⟩:=Int.eq_ofNat_of_zero_le (show 0<=e' 1 by omega)
  rw [hn] at i3
  rw [if_pos (by omega),hn,Int.toNat_natCast] at a3
  rw [show ((n:Int)+1).toNat=n+1 by omega] at i3
  have hp:(0:Int)<2^n:=Int.pow_pos (by decide)
  have hq:e 0/2^n<2:=Int.ediv_lt_of_lt_mul hp (by rw [Int.pow_succ] at i3;omega)
  have hq0:0<=e 0/2^n:=Int.ediv_nonneg h0.1 (by omega)
  refine ⟨fun hs2=>?_,fun hs2=>?_⟩
  ·intro a5 _
   have h1:e 0/2^n=1:=by omega
   have h2:(2:Int)^n<=e 0:=by
    have:=Int.mul_le_of_le_ediv (a:=1) hp (show (1:Int)<=e 0/2^n by omega);omega
   have h3:=blen_gt n (e 0) h2
   have h4:=blen_le (n+1) (e 0) h0.1 i3
   have h5:e' 5=n+1:=by rw [a5];simp only [binE,wr];omega
   rw [h5]
   congr 1
   omega
  ·intro a5 _
   have h1:e 0/2^n=0:=by omega
   have h2:e 0<2^n:=by
    by_cases hc:e 0<2^n
    ·exact hc
    ·exfalso
     have:=Int.le_ediv_of_mul_le hp (show 1*2^n<=e 0 by omega)
     omega
   have h5:e' 5=n-1:=by rw [a5];simp only [binE,wr];omega
   show LenI (e 0) [e' 5]/\(e' 5+1).toNat<(e' 1+1).toNat
   rw [h5,hn]
   refine ⟨⟨by omega,by omega,?_⟩,by omega⟩
   rw [show ((n:Int)-1+1).toNat=n by omega];exact h2
 ·have h1:e' 1=-1:=by omega
  rw [h1] at i3
  have h2:e 0=0:=by
   have:e 0<1:=i3
   omega
  rw [h2];rfl
theorem pow_bit (a:Int) (x:Int) (hx:0<=x) (i:Nat):a^(x/2^i).toNat=a^(x/2^(i+1)).toNat*a^(x/2^(i+1)).toNat*(if x/2^i%2=1 then a else 1):=by
 have hp:(0:Int)<2^i:=Int.pow_pos (by decide)
 have h1:x/2^(i+1)=x/2^i/2:=by rw [Int.pow_succ,Int.ediv_ediv_of_nonneg (by omega)]
 have h0:=Int.ediv_nonneg hx (show (0:Int)<=2^i by omega)
 rw [h1,<- Int.pow_add]
 generalize x/2^i=y at *
 split
 ·rw [show y.toNat=((y/2).toNat+(y/2).toNat)+1 by omega,Int.pow_succ]
 ·rw [Int.mul_one];congr 1;omega
theorem md_mul {a b n:Int}:a%n*(b%n)%n=a*b%n:=by rw [<- Int.mul_emod]
def PowI (n a x:Int):List Int->Prop
 | [i,o]=>-1<=i/\i<=383/\o=a^(x/2^(i+1).toNat).toNat%n
 | _=>False
theorem pow_step0 {n a x o o1:Int} {i:Nat} (hx:0<=x) (ho:o=a^(x/2^(i+1)).toNat%n) (h1:o1=o*o%n) (hb:x/2^i%2=0):o1=a^(x/2^i).toNat%n:=by
 rw [pow_bit a x hx i,if_neg (by omega),Int.mul_one,h1,ho,md_mul]
theorem pow_step1 {n a x o o1 o2:Int} {i:Nat} (hx:0<=x) (ho:o=a^(x/2^(i+1)).toNat%n) (h1:o1=o*o%n) (h2:o2=o1*a%n) (hb:x/2^i%2=1):o2=a^(x/2^i).toNat%n:=by
 rw [pow_bit a x hx i,if_pos hb,h2,h1,ho,md_mul]
 obtain ⟨z,hz⟩:=md_of (x:=a^(x/2^(i+1)).toNat*a^(x/2^(i+1)).toNat) (n:=n)
 rw [hz]
 exact md (z*a) (by grind)
def tFMul:Tree:=(.req 0 [.var 0,.var 1,.var 2,.var 3,.var 4]
(.lett 197 .num (.app 0 0 [.var 0,.var 1,.var 2,.var 3,.var 4])
(.req 0 [.var 0,.var 1,.var 2,.var 197,.var 2]
(.lett 341 .num (.app 0 0 [.var 0,.var 1,.var 2,.var 197,.var 2])
(.ret [.var 341])))))
theorem law_fMul (f1 f:FuncId) (e:Nat->Int) (hk:kkHas [.num,.int .u64,.num,.num,.num] [e 0,e 1,e 2,e 3,e 4]) (hp:(kFMul f).pre [e 0,e 1,e 2,e 3,e 4]):tFMul.says [kFMont f1] ⟨fun ys=>ys=(kFMul f).sem [e 0,e 1,e 2,e 3,e 4],[]⟩ e:=by
 obtain ⟨⟨hm,hw⟩,hab⟩:=hp
 have hn:=hm.2.1
 have hwl:=wide_lt (n:=e 0) (by omega)
 simp only [tFMul,kFMont,kFMul,Tree.says,List.getElem?_cons_zero,List.getElem?_cons_succ,List.map,ev_lit,ev_var,ev_limb,D.ev,List.getD_cons_zero,List.getD_cons_succ]
 refine ⟨⟨hm,hab⟩,fun a1 _=>⟨⟨hm,.inr (by rw [hw];exact hwl.2)⟩,fun a2 _=>?_⟩⟩
 rw [a2,a1,hw]
 congr 1
 rw [<- mont_mul (n:=e 0) (a:=e 3) (b:=e 4) hm.odd]
 unfold montv
 have key:∀ u v w:Int,u*v*half2 (e 0)^384%e 0*w*half2 (e 0)^384%e 0=u*v*half2 (e 0)^384*w*half2 (e 0)^384%e 0:=fun u v w=>by
  obtain ⟨z,hz⟩:=md_of (x:=u*v*half2 (e 0)^384) (n:=e 0)
  rw [hz]
  exact md (z*w*half2 (e 0)^384) (by grind)
 show e 3*e 4*half2 (e 0)^384%e 0*wideOf (e 0)*half2 (e 0)^384%e 0=e 3*wideOf (e 0)*half2 (e 0)^384%e 0*e 4*half2 (e 0)^384%e 0
 rw [key,key]
 congr 1
 grind
def tFAdd:Tree:=(.req 0 [.var 3,.var 4]
(.lett 5 .num (.app 0 0 [.var 3,.var 4])
(.lett 6 .bit (.app 0 1 [.var 3,.var 4])
(.req 1 [.var 5,.var 0]
(.lett 7 (.int .i64) (.app 1 0 [.var 5,.var 0])
(.lett 8 .bit (.cmp .geq (.var 7) (.lit 0))
(.split 8
(.req 2 [.var 5,.var 0]
(.lett 9 .num (.app 2 0 [.var 5,.var 0])
(.lett 10 .bit (.app 2 1 [.var 5,.var 0])
(.ret [.var 9]))))
(.ret [.var 5]))))))))
theorem law_fAdd (f1 f2 f3 f:FuncId) (e:Nat->Int) (hk:kkHas [.num,.int .u64,.num,.num,.num] [e 0,e 1,e 2,e 3,e 4]) (hp:(kFAdd f).pre [e 0,e 1,e 2,e 3,e 4]):tFAdd.says [kWAdd f1,kWCmp f2,kWSub f3] ⟨fun ys=>ys=(kFAdd f).sem [e 0,e 1,e 2,e 3,e 4],[]⟩ e:=by
 obtain ⟨hn,ha,hb⟩:=hp
 obtain ⟨_,_,_,h3,h4,_⟩:=hk
 simp only [KK.has] at h3 h4
 have hl:2*e 0<N384:=by rw [p382] at hn;unfold N384;omega
 simp only [tFAdd,kWAdd,kWCmp,kWSub,kFAdd,Tree.says,List.getElem?_cons_zero,List.getElem?_cons_succ,List.map,ev_lit,ev_var,ev_limb,D.ev,List.getD_cons_zero,List.getD_cons_succ]
 refine ⟨trivial,fun a5 k5 a6 _=>⟨trivial,fun a7 _ a8 _=>?_⟩⟩
 have b8:=cmp_ge a7 a8
 rw [Int.emod_eq_of_lt (by omega) (by omega)] at a5
 refine ⟨fun hs=>⟨trivial,fun a9 _ _ _=>?_⟩,fun hs=>?_⟩
 ·rw [a9,Int.emod_eq_of_lt (by omega) (by omega),<- a5]
  congr 1
  exact (md_eq 1 (by omega) (by omega) (by omega)).symm
 ·rw [<- a5]
  congr 1
  exact (Int.emod_eq_of_lt (by omega) (by omega)).symm
def tFPow:Tree:=(.req 0 [.var 4]
(.lett 5 (.int .i64) (.app 0 0 [.var 4])
(.lett 6 (.int .i64) (.bin .sub .i64 (.var 5) (.lit 1))
(.loop [.var 6,.lit 1] [(.int .i64),.num] 7
(.lett 9 .bit (.cmp .geq (.var 7) (.lit 0))
(.split 9
(.req 1 [.var 0,.var 1,.var 2,.var 8,.var 8]
(.lett 10 .num (.app 1 0 [.var 0,.var 1,.var 2,.var 8,.var 8])
(.req 2 [.var 4,.var 7]
(.lett 11 (.int .i64) (.app 2 0 [.var 4,.var 7])
(.lett 12 .bit (.cmp .eql (.var 11) (.lit 1))
(.split 12
 (.req 1 [.var 0,.var 1,.var 2,.var 10,.var 3]
 (.lett 13 .num (.app 1 0 [.var 0,.var 1,.var 2,.var 10,.var 3])
 (.lett 14 (.int .i64) (.bin .sub .i64 (.var 7) (.lit 1))
 (.back 0 [.var 14,.var 13]))))
 (.lett 13 (.int .i64) (.bin .sub .i64 (.var 7) (.lit 1))
 (.back 0 [.var 13,.var 10]))))))))
(.ret [.var 8])))))))
theorem law_fPow (f1 f2 f3 f:FuncId) (e:Nat->Int) (hk:kkHas [.num,.int .u64,.num,.num,.num] [e 0,e 1,e 2,e 3,e 4]) (hp:(kFPow f).pre [e 0,e 1,e 2,e 3,e 4]):tFPow.says [kWLen f1,kFMul f2,kBit f3] ⟨fun ys=>ys=(kFPow f).sem [e 0,e 1,e 2,e 3,e 4],[]⟩ e:=by
 obtain ⟨hm,ha⟩:=hp
 have hn:=hm.1.2.1
 have h4:=hk.2.2.2.2.1
 simp only [KK.has] at h4
 simp only [tFPow,kWLen,kFMul,kBit,kFPow,Tree.says,List.getElem?_cons_zero,List.getElem?_cons_succ,List.map,ev_lit,ev_var,ev_limb,D.ev,List.getD_cons_zero,List.getD_cons_succ]
 refine ⟨trivial,fun a5 _ a6 _=>?_⟩
 have b0:=blen_nn (e 4)
 have b1:=blen_le 384 (e 4) h4.1 (by rw [show (2:Int)^384=N384 by decide +kernel];exact h4.2)
 have c6:e 6=blen (e 4)-1:=by rw [a6,a5];simp only [binE,wr];omega
 refine ⟨PowI (e 0) (e 3) (e 4),fun | [i,_]=>(i+1).toNat | _=>0,?_,fun e' he hkk hI=>?_⟩
 ·rw [c6]
  refine ⟨by omega,by omega,?_⟩
  rw [Int.sub_add_cancel]
  have h1:e 4/2^(blen (e 4)).toNat=0:=by
   by_cases hc:e 4<2^(blen (e 4)).toNat
   ·exact Int.ediv_eq_zero_of_lt h4.1 hc
   ·have:=blen_gt (blen (e 4)).toNat (e 4) (by omega);omega
  rw [h1,Int.toNat_zero,Int.pow_zero]
  exact (Int.emod_eq_of_lt (by decide) (by omega)).symm
 ·obtain ⟨i1,i2,i3⟩:PowI (e 0) (e 3) (e 4) [e' 7,e' 8]:=hI
  rw [he 0 (by decide),he 1 (by decide),he 2 (by decide),he 3 (by decide),he 4 (by decide)]
  intro a9 _
  have b9:=c_ge a9
  refine ⟨fun hs=>?_,fun hs=>?_⟩
  ·obtain ⟨n,hi⟩:=Int.eq_ofNat_of_zero_le (show 0<=e' 7 by omega)
   rw [hi,show ((n:Int)+1).toNat=n+1 by omega] at i3
   have hlt:e' 8<e 0:=by rw [i3];exact (md_lt (by omega)).2
   refine ⟨⟨hm,.inl hlt⟩,fun a10 _=>⟨trivial,fun a11 _ a12 _=>?_⟩⟩
   have b12:=c_eq a12
   rw [if_pos (by omega),hi,Int.toNat_natCast] at a11
   have hlt2:e' 10<e 0:=by rw [a10];exact (md_lt (by omega)).2
   refine ⟨fun hs2=>?_,fun hs2=>?_⟩
   ·refine ⟨⟨hm,.inl hlt2⟩,fun a13 _ a14 _=>?_⟩
    have h14:e' 14=n-1:=by rw [a14];simp only [binE,wr];omega
    show PowI (e 0) (e 3) (e 4) [e' 14,e' 13]/\(e' 14+1).toNat<(e' 7+1).toNat
    rw [h14,hi]
    refine ⟨⟨by omega,by omega,?_⟩,by omega⟩
    rw [show ((n:Int)-1+1).toNat=n by omega]
    exact pow_step1 h4.1 i3 a10 a13 (by omega)
   ·intro a13 _
    have h13:e' 13=n-1:=by rw [a13];simp only [binE,wr];omega
    show PowI (e 0) (e 3) (e 4) [e' 13,e' 10]/\(e' 13+1).toNat<(e' 7+1).toNat
    rw [h13,hi]
    refine ⟨⟨by omega,by omega,?_⟩,by omega⟩
    rw [show ((n:Int)-1+1).toNat=n by omega]
    exact pow_step0 h4.1 i3 a10 (by omega)
  ·have h1:e' 7=-1:=by omega
   rw [i3,h1]
   show [e 3^(e 4/1).toNat%e 0]=_
   rw [Int.ediv_one]
def tFInv:Tree:=(.req 0 [.var 0,.lit 2]
(.lett 4 .num (.app 0 0 [.var 0,.lit 2])
(.lett 5 .bit (.app 0 1 [.var 0,.lit 2])
(.req 1 [.var 0,.var 1,.var 2,.var 3,.var 4]
(.lett 6 .num (.app 1 0 [.var 0,.var 1,.var 2,.var 3,.var 4])
(.ret [.var 6]))))))
theorem law_fInv (f1 f2 f:FuncId) (e:Nat->Int) (hk:kkHas [.num,.int .u64,.num,.num] [e 0,e 1,e 2,e 3]) (hp:(kFInv f).pre [e 0,e 1,e 2,e 3]):tFInv.says [kWSub f1,kFPow f2] ⟨fun ys=>ys=(kFInv f).sem [e 0,e 1,e 2,e 3],[]⟩ e:=by
 obtain ⟨hm,ha⟩:=hp
 have hn:=hm.1.2.1
 have h0:=hk.1
 simp only [KK.has] at h0
 simp only [tFInv,kWSub,kFPow,kFInv,Tree.says,List.getElem?_cons_zero,List.getElem?_cons_succ,List.map,ev_lit,ev_var,ev_limb,D.ev,List.getD_cons_zero,List.getD_cons_succ]
 refine ⟨trivial,fun a4 _ a5 _=>⟨⟨hm,ha⟩,fun a6 _=>?_⟩⟩
 have a4':e 4=e 0-2:=by rw [a4];exact Int.emod_eq_of_lt (by omega) (by omega)
 rw [a6,a4']
def tCAdd:Tree:=(.lett 8 (.int .u64) (.bin .add .u64 (.var 6) (.var 7))
(.lett 9 (.int .u64) (.bin .rem .u64 (.var 8) (.var 0))
(.nz (.var 0)
(.ret [.var 9]))))
theorem law_cAdd (f:FuncId) (e:Nat->Int) (hk:kkHas [.int .u64,.int .u64,.int .u64,.int .u64,.int .u64,.bit,.int .u64,.int .u64] [e 0,e 1,e 2,e 3,e 4,e 5,e 6,e 7]) (hp:(kCAdd f).pre [e 0,e 1,e 2,e 3,e 4,e 5,e 6,e 7]):tCAdd.says [] ⟨fun ys=>ys=(kCAdd f).sem [e 0,e 1,e 2,e 3,e 4,e 5,e 6,e 7],[]⟩ e:=by
 obtain ⟨p0,p1,p2,p3⟩:=hp
 obtain ⟨_,_,_,_,_,_,h6,h7,_⟩:=hk
 have u6:=has_u64 h6
 have u7:=has_u64 h7
 simp only [tCAdd,kCAdd,Tree.says,List.getElem?_cons_zero,List.getElem?_cons_succ,List.map,ev_lit,ev_var,ev_limb,D.ev,List.getD_cons_zero,List.getD_cons_succ]
 intro a8 _ a9 _
 have c8:e 8=e 6+e 7:=by rw [a8];simp only [binE,wr];omega
 refine ⟨by omega,?_⟩
 rw [a9,c8];simp only [binE];rw [Int.tmod_eq_emod_of_nonneg (by omega)]
def tCNeg:Tree:=(.lett 7 (.int .u64) (.bin .sub .u64 (.var 0) (.var 6))
(.lett 8 (.int .u64) (.bin .rem .u64 (.var 7) (.var 0))
(.nz (.var 0)
(.ret [.var 8]))))
theorem law_cNeg (f:FuncId) (e:Nat->Int) (hk:kkHas [.int .u64,.int .u64,.int .u64,.int .u64,.int .u64,.bit,.int .u64] [e 0,e 1,e 2,e 3,e 4,e 5,e 6]) (hp:(kCNeg f).pre [e 0,e 1,e 2,e 3,e 4,e 5,e 6]):tCNeg.says [] ⟨fun ys=>ys=(kCNeg f).sem [e 0,e 1,e 2,e 3,e 4,e 5,e 6],[]⟩ e:=by
 obtain ⟨p0,p1,p2⟩:=hp
 obtain ⟨_,_,_,_,_,_,h6,_⟩:=hk
 have u6:=has_u64 h6
 simp only [tCNeg,kCNeg,Tree.says,List.getElem?_cons_zero,List.getElem?_cons_succ,List.map,ev_lit,ev_var,ev_limb,D.ev,List.getD_cons_zero,List.getD_cons_succ]
 intro a7 _ a8 _
 have c7:e 7=e 0-e 6:=by rw [a7];simp only [binE,wr];omega
 refine ⟨by omega,?_⟩
 rw [a8,c7];simp only [binE];rw [Int.tmod_eq_emod_of_nonneg (by omega)]
 congr 1
 exact md 1 (by omega)
def tCSub:Tree:=(.req 1 [.var 0,.var 1,.var 2,.var 3,.var 4,.var 5,.var 7]
(.lett 200 (.int .u64) (.app 1 0 [.var 0,.var 1,.var 2,.var 3,.var 4,.var 5,.var 7])
(.req 0 [.var 0,.var 1,.var 2,.var 3,.var 4,.var 5,.var 6,.var 200]
(.lett 248 (.int .u64) (.app 0 0 [.var 0,.var 1,.var 2,.var 3,.var 4,.var 5,.var 6,.var 200])
(.ret [.var 248])))))
theorem law_cSub (f1 f2 f:FuncId) (e:Nat->Int) (hp:(kCSub f).pre [e 0,e 1,e 2,e 3,e 4,e 5,e 6,e 7]):tCSub.says [kCAdd f1,kCNeg f2] ⟨fun ys=>ys=(kCSub f).sem [e 0,e 1,e 2,e 3,e 4,e 5,e 6,e 7],[]⟩ e:=by
 obtain ⟨p0,p1,p2,p3⟩:=hp
 simp only [tCSub,kCAdd,kCNeg,kCSub,Tree.says,List.getElem?_cons_zero,List.getElem?_cons_succ,List.map,ev_lit,ev_var,ev_limb,D.ev,List.getD_cons_zero,List.getD_cons_succ]
 refine ⟨⟨p0,p1,p3⟩,fun a1 _=>⟨⟨p0,p1,p2,by rw [a1];have:=(md_lt (x:=-e 7) p0).2;omega⟩,fun a2 _=>?_⟩⟩
 rw [a2,a1,Int.add_emod_emod,Int.sub_eq_add_neg]
def tRScalar:Tree:=(.req 0 [.var 0]
(.lett 98 .num (.app 0 0 [.var 0])
(.req 1 [.var 1,.var 98]
(.lett 146 (.int .i64) (.app 1 0 [.var 1,.var 98])
(.lett 194 .bit (.cmp .lss (.var 146) (.lit 0))
(.ret [.var 194]))))))
theorem law_rScalar (f1 f2 f:FuncId) (e:Nat->Int) (hp:(kRScalar f).pre [e 0,e 1]):tRScalar.says [kOrder f1,kWCmp f2] ⟨fun ys=>ys=(kRScalar f).sem [e 0,e 1],[]⟩ e:=by
 simp only [tRScalar,kOrder,kWCmp,kRScalar,Tree.says,List.getElem?_cons_zero,List.getElem?_cons_succ,List.map,ev_lit,ev_var,ev_limb,D.ev,List.getD_cons_zero,List.getD_cons_succ]
 refine ⟨hp,fun a1 _=>⟨trivial,fun a2 _ a3 _=>?_⟩⟩
 have:=cmp_lt a2 a3
 rw [a1] at this
 unfold bi
 split <;> congr 1 <;> omega
theorem halves {x:Int} {i:Nat} (hx:0<=x):(x/2^i).toNat=2*(x/2^(i+1)).toNat+(x/2^i%2).toNat:=by
 have hq:(0:Int)<2^i:=Int.pow_pos (by decide)
 rw [Int.pow_succ,<- Int.ediv_ediv_of_nonneg (by omega)]
 have:=Int.ediv_nonneg hx (show (0:Int)<=2^i by omega)
 omega
def EPowI (a n:Int):List Int->Prop
 | [i,o]=>-1<=i/\i<=383/\o=toE (a^(n/2^(i+1).toNat).toNat)
 | _=>False
theorem div_384 {x:Int} (h:0<=x/\x<N384):x/2^384=0:=by
 refine Int.ediv_eq_zero_of_lt h.1 ?_
 rw [show (2:Int)^384=N384 by decide +kernel];exact h.2
def tEPow:Tree:=(.req 1 []
(.lett 2 .num (.app 1 0 [])
(.loop [.lit 383,.var 2] [(.int .i64),.num] 3
(.lett 5 .bit (.cmp .geq (.var 3) (.lit 0))
(.split 5
(.req 0 [.var 4,.var 4]
(.lett 6 .num (.app 0 0 [.var 4,.var 4])
(.lett 7 (.int .i64) (.bin .quo .i64 (.var 3) (.lit 64))
(.lett 8 .bit (.cmp .leq (.lit 0) (.var 7))
(.lett 9 .bit (.cmp .lss (.var 7) (.lit 6))
(.nz (.var 8)
(.nz (.var 9)
(.lett 10 (.int .u64) (.sel (.var 7) [.limb 1 0,.limb 1 1,.limb 1 2,.limb 1 3,.limb 1 4,.limb 1 5])
(.lett 11 (.int .i64) (.bin .rem .i64 (.var 3) (.lit 64))
(.lett 12 .bit (.cmp .leq (.lit 0) (.var 11))
(.lett 13 (.int .u64) (.bin .shr .u64 (.var 10) (.var 11))
(.nz (.var 12)
(.lett 14 (.int .u64) (.bin .and .u64 (.var 13) (.lit 1))
(.lett 15 .bit (.cmp .eql (.var 14) (.lit 1))
(.split 15
 (.req 0 [.var 6,.var 0]
 (.lett 16 .num (.app 0 0 [.var 6,.var 0])
 (.lett 17 (.int .i64) (.bin .sub .i64 (.var 3) (.lit 1))
 (.back 0 [.var 17,.var 16]))))
 (.lett 16 (.int .i64) (.bin .sub .i64 (.var 3) (.lit 1))
 (.back 0 [.var 16,.var 6])))))))))))))))))
(.ret [.var 4]))))))
theorem law_ePow (f1 f2 f:FuncId) (e:Nat->Int) (hk:kkHas [.num,.num] [e 0,e 1]) (hp:(kEPow f).pre [e 0,e 1]):tEPow.says [kEMul f1,kEOne f2] ⟨fun ys=>ys=(kEPow f).sem [e 0,e 1],[]⟩ e:=by
 have u0:e 0<bP:=hp
 have v0:0<=e 0:=hk.1.1
 have h1:0<=e 1/\e 1<N384:=hk.2.1
 have q0:=E_of v0 u0
 obtain ⟨A,hA⟩:∃ A,A=ofE (e 0):=⟨_,rfl⟩
 rw [<- hA] at q0
 refine ⟨trivial,fun a2 _=>?_⟩
 have q2:e 2=toE 1:=a2
 refine ⟨EPowI A (e 1),fun | [i,_]=>(i+1).toNat | _=>0,?_,fun e' he hkk hI=>?_⟩
 ·refine ⟨(show (-1:Int)<=383 by decide),(show (383:Int)<=383 by decide),?_⟩
  show e 2=toE (A^(e 1/2^384).toNat)
  rw [div_384 h1,q2,Int.toNat_zero,Int.pow_zero]
 ·obtain ⟨i1,i2,i3⟩:EPowI A (e 1) [e' 3,e' 4]:=hI
  rw [<- he 0 (by decide)] at q0 u0
  rw [<- he 1 (by decide)] at h1 i3 ⊢
  have e0:e 0=e' 0:=(he 0 (by decide)).symm
  rw [e0]
  rw [e0] at hA
  clear he a2 q2 hk hkk e0
  intro a5 _
  have b5:=c_ge a5
  refine ⟨fun hs=>?_,fun hs=>?_⟩
  ·have c5:0<=e' 3:=by
    rcases b5 with ⟨_,h⟩ | ⟨h,_⟩
    ·exact h
    ·exact absurd h hs
   obtain ⟨n,hi⟩:=Int.eq_ofNat_of_zero_le c5
   rw [hi,show ((n:Int)+1).toNat=n+1 by omega] at i3
   refine ⟨⟨E_lt i3,E_lt i3⟩,fun a6 _=>?_⟩
   have q6:=Emul (show e' 6=toE (ofE (e' 4)*ofE (e' 4)) from a6) i3 i3
   intro a7 _
   have h7:e' 7=e' 3/64:=by
    have:e' 7=binE .quo .i64 (e' 3) 64:=a7
    rw [this];simp only [binE];rw [Int.tdiv_eq_ediv_of_nonneg c5];simp only [wr];omega
   intro a8 _ a9 _
   refine ⟨bit_nz a8 (by show 0<=e' 7;rw [h7];omega),lt_nz a9 (by show e' 7<6;rw [h7];omega),fun a10 _ a11 _ a12 _ a13 k13=>?_⟩
   have h11:e' 11=e' 3%64:=by
    have:e' 11=binE .rem .i64 (e' 3) 64:=a11
    rw [this];simp only [binE];rw [Int.tmod_eq_emod_of_nonneg c5]
   refine ⟨bit_nz a12 (by show 0<=e' 11;rw [h11];omega),fun a14 _ a15 _=>?_⟩
   have hb:=bit_fin (e:=e') (a:=e' 1) (i:=e' 3) (q:=e' 7) (s:=e' 10) (r:=e' 11) (v:=e' 13) (w:=e' 14) (z:=wr .i64 (e' 14)) ⟨c5,by omega⟩ h1 h7 a10 h11 a13 a14 rfl
   have h14:=and_1 a14 (has_u64 k13)
   have h14':e' 14=e' 1/2^(e' 3).toNat%2:=by
    rw [<- hb,h14];simp only [wr];omega
   rw [hi,Int.toNat_natCast] at h14'
   have hh:=halves (i:=n) h1.1
   have b15:=c_eq a15
   refine ⟨fun hs2=>?_,fun hs2=>?_⟩
   ·have c15:e' 14=1:=by
     rcases b15 with ⟨_,h⟩ | ⟨h,_⟩
     ·exact h
     ·exact absurd h hs2
    refine ⟨⟨E_lt q6,u0⟩,fun a16 _ a17 _=>?_⟩
    have q16:=Emul (show e' 16=toE (ofE (e' 6)*ofE (e' 0)) from a16) q6 q0
    have h17:e' 17=n-1:=by
     have:e' 17=binE .sub .i64 (e' 3) 1:=a17
     rw [this,hi];simp only [binE,wr];omega
    show EPowI A (e' 1) [e' 17,e' 16]/\(e' 17+1).toNat<(e' 3+1).toNat
    rw [h17,hi]
    refine ⟨⟨by omega,by omega,?_⟩,by omega⟩
    rw [show ((n:Int)-1+1).toNat=n by omega,q16,hh,<- h14',c15,<- Int.pow_add,<- Int.pow_succ]
    congr 2;omega
   ·have c15:e' 14=0:=by
     rcases b15 with ⟨h,_⟩ | ⟨_,h⟩
     ·exact absurd (h.symm.trans hs2) (by decide)
     ·have:e' 14≠1:=h
      omega
    intro a16 _
    have h16:e' 16=n-1:=by
     have:e' 16=binE .sub .i64 (e' 3) 1:=a16
     rw [this,hi];simp only [binE,wr];omega
    show EPowI A (e' 1) [e' 16,e' 6]/\(e' 16+1).toNat<(e' 3+1).toNat
    rw [h16,hi]
    refine ⟨⟨by omega,by omega,?_⟩,by omega⟩
    rw [show ((n:Int)-1+1).toNat=n by omega,q6,hh,<- h14',c15,<- Int.pow_add]
    congr 2;omega
  ·have c5:e' 3=-1:=by
    rcases b5 with ⟨h,_⟩ | ⟨_,h⟩
    ·exact absurd (h.symm.trans hs) (by decide)
    ·have:¬ e' 3≥0:=h
     omega
   rw [c5] at i3
   show [e' 4]=[toE (ofE (e' 0)^(e' 1).toNat)]
   rw [i3,<- hA]
   show [toE (A^(e' 1/1).toNat)]=_
   rw [Int.ediv_one]
def tEInv:Tree:=(.req 0 [.var 0,.lit 4002409555221667393417789825735904156556882819939007885332058136124031650490837864442687629129015664037894272559785]
(.lett 1 .num (.app 0 0 [.var 0,.lit 4002409555221667393417789825735904156556882819939007885332058136124031650490837864442687629129015664037894272559785])
(.ret [.var 1])))
theorem law_eInv (f1 f:FuncId) (e:Nat->Int) (hk:kkHas [.num] [e 0]) (hp:(kEInv f).pre [e 0]):tEInv.says [kEPow f1] ⟨fun ys=>ys=(kEInv f).sem [e 0],[]⟩ e:=by
 have u0:e 0<bP:=hp
 refine ⟨u0,fun a1 _=>?_⟩
 show [e 1]=[toE (ofE (e 0)^(bP-2).toNat)]
 rw [show e 1=toE (ofE (e 0)^(Int.toNat 4002409555221667393417789825735904156556882819939007885332058136124031650490837864442687629129015664037894272559785)) from a1]
 rfl
theorem z_E {x X:Int} (h:x=toE X) (hn:x=0):X%bP=0:=toE_zero.1 (h.symm.trans hn)
theorem b_yes {v:Int} {p:Prop} (b:(v=1/\p)∨(v=0/\¬ p)) (h:v≠0):p:=by
 rcases b with ⟨_,h1⟩ | ⟨h1,_⟩
 ·exact h1
 ·exact absurd h1 h
theorem b_no {v:Int} {p:Prop} (b:(v=1/\p)∨(v=0/\¬ p)) (h:v=0):¬ p:=by
 rcases b with ⟨h1,_⟩ | ⟨_,h1⟩
 ·exact absurd (h1.symm.trans h) (by decide)
 ·exact h1
def Jeq (P Q:J Int):Prop:=P.x%bP=Q.x%bP/\P.y%bP=Q.y%bP/\P.z%bP=Q.z%bP
theorem Jeq.refl (P:J Int):Jeq P P:=⟨rfl,rfl,rfl⟩
theorem Jeq.symm {P Q:J Int} (h:Jeq P Q):Jeq Q P:=⟨h.1.symm,h.2.1.symm,h.2.2.symm⟩
theorem Jeq.trans {P Q S:J Int} (h:Jeq P Q) (k:Jeq Q S):Jeq P S:=⟨h.1.trans k.1,h.2.1.trans k.2.1,h.2.2.trans k.2.2⟩
theorem Jeq.l {P Q:J Int} (h:Jeq P Q):P.l=Q.l:=by unfold J.l;rw [toE_md h.1,toE_md h.2.1,toE_md h.2.2]
theorem md_self (x:Int):x%bP%bP=x%bP:=Int.emod_emod_of_dvd _ (Int.dvd_refl _)
theorem tmJ_step {α:Type} {R:Rg α} {P:J α} {n:Nat} (h0:n≠0) (h:n<2^384):tmJ R P 384 n=if n%2=1 then J.md R (sumJ R (J.md R (dblJ R (tmJ R P 384 (n/2)))) P) else J.md R (dblJ R (tmJ R P 384 (n/2))):=by
 have hf:tmJ R P 384 (n/2)=tmJ R P 383 (n/2):=tmJ_fuel 383 (n/2) (by omega)
 rw [hf]
 conv=>lhs;unfold tmJ
 rw [if_neg h0]
theorem p384:(2:Int)^384=N384:=by decide +kernel
theorem p384n:((2^384:Nat):Int)=N384:=by decide +kernel
theorem top_bit {n:Int} {i:Nat} (h:0<=n/\n<N384) (hi:(i:Int)<blen n):1<=n/2^i/\(n/2^i).toNat<2^384:=by
 have hq:(0:Int)<2^i:=Int.pow_pos (by decide)
 have hl:(2:Int)^i<=n:=by
  rcases Int.lt_or_le n (2^i) with hc | hc
  ·have:=blen_le i n h.1 hc;omega
  ·exact hc
 refine ⟨(Int.le_ediv_iff_mul_le hq).2 (by omega),?_⟩
 have h1:n/2^i<=n:=Int.ediv_le_self _ h.1
 have h2:((n/2^i).toNat:Int)<N384:=by
  have:=Int.ediv_nonneg h.1 (show (0:Int)<=2^i by omega)
  omega
 exact Int.ofNat_lt.1 (Int.lt_of_lt_of_le h2 (Int.le_of_eq p384n.symm))
end Go.Sx
namespace Go.Sx
open Go Go.RowKit
set_option maxRecDepth 100000
open Classical in
noncomputable def bj (p:Prop):Int:=if p then 1 else 0
theorem bj_t {p:Prop} (h:p):bj p=1:=if_pos h
theorem bj_f {p:Prop} (h:¬ p):bj p=0:=if_neg h
theorem bj_of {v:Int} {p:Prop} (b:(v=1/\p)∨(v=0/\¬ p)):v=bj p:=by
 rcases b with ⟨h,k⟩ | ⟨h,k⟩
 ·rw [h,bj_t k]
 ·rw [h,bj_f k]
theorem bj_nz {v:Int} {p:Prop} (h:v=bj p) (hn:v≠0):p:=by
 by_cases hp:p
 ·exact hp
 ·exact absurd (h.trans (bj_f hp)) hn
theorem bj_z {v:Int} {p:Prop} (h:v=bj p) (hn:v=0):¬ p:=fun hp=>by
 rw [bj_t hp,hn] at h;exact absurd h (by decide)
theorem bj_iff {p q:Prop} (h:p↔q):bj p=bj q:=by rw [propext h]
def kMOrder (f:FuncId):K:={fn:=f,ext:=false,ins:=[],outs:=[oN],pre:=fun _=>True,sem:=fun _=>[rGreat] }
def kMBase (f:FuncId):K:={fn:=f,ext:=false,ins:=[],outs:=[oN],pre:=fun _=>True,sem:=fun _=>[bP] }
end Go.Sx
namespace Go.Sx
open Go Go.RowKit
set_option maxRecDepth 100000
def tMOrder:Tree:=(.ret [.lit 52435875175126190479447740508185965837690552500527637822603658699938581184513])
theorem law_mOrder (f:FuncId) (e:Nat->Int):tMOrder.says [] ⟨fun ys=>ys=(kMOrder f).sem [],[]⟩ e:=rfl
def tMBase:Tree:=(.ret [.lit 4002409555221667393417789825735904156556882819939007885332058136124031650490837864442687629129015664037894272559787])
theorem law_mBase (f:FuncId) (e:Nat->Int):tMBase.says [] ⟨fun ys=>ys=(kMBase f).sem [],[]⟩ e:=rfl
theorem cmpV_lt {v a b:Int} (h:v=if a<b then -1 else if a=b then 0 else 1):v<0↔a<b:=by
 rw [h];split
 ·rename_i h1;exact ⟨fun _=>h1,fun _=>by decide⟩
 ·rename_i h1;split <;> exact ⟨fun h2=>absurd h2 (by decide),fun h2=>absurd h2 h1⟩
theorem getD_lt {l:List Int} {i:Nat} (h:i<l.length):l.getD i 0=l[i]:=by
 rw [List.getD_eq_getElem?_getD,List.getElem?_eq_getElem h];rfl
end Go.Sx

