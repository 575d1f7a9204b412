/- Part Hl of the proof. -/
import Derived.Test.YtaablkpongjlkaaGreatHk
import Derived.Test.YtaablkpongjlkaaGreatHi
import Derived.Test.YtaablkpongjlkaaGreatHj
import Derived.Test.YtaablkpongjlkaaGreatHh
import Derived.Lib.Bytealg
set_option linter.unusedVariables false
set_option linter.unusedSimpArgs false
namespace Go.Sx
open Go Go.RowKit
set_option maxRecDepth 100000
def byteAt (a:Int) (k:Nat):Int:=a/2^(8*k)%256
def bytesV (a:Int):List Int:=(List.range 48).map fun i=>byteAt a (47-i)
def readV (l:List Int):Int:=l.foldl (fun a b=>256*a+b) 0
theorem bytesV_len (a:Int):(bytesV a).length=48:=by simp [bytesV]
theorem bytesV_get (a:Int) {i:Nat} (h:i<48):(bytesV a)[i]'(by rw [bytesV_len];exact h)=byteAt a (47-i):=by simp [bytesV]
theorem selW {a k s:Int} (hk:0<=k/\k<6) (hs:s=([lim a 0,lim a 1,lim a 2,lim a 3,lim a 4,lim a 5]:List Int).getD k.toNat 0):s=lim a k.toNat:=by
 have:k=0∨k=1∨k=2∨k=3∨k=4∨k=5:=by omega
 rw [hs]
 rcases this with h | h | h | h | h | h <;> rw [h] <;> rfl
theorem chunk (x s:Nat) (hs:s+8<=64):x%18446744073709551616/2^s%256=x/2^s%256:=by
 rw [show 18446744073709551616=2^s*2^(64-s) by rw [<- Nat.pow_add,show s+(64-s)=64 by omega],Nat.mod_mul_right_div_self,Nat.mod_mod_of_dvd]
 exact ⟨2^(56-s),by rw [show (256:Nat)=2^8 from rfl,<- Nat.pow_add];congr 1;omega⟩
theorem min64 {r:Nat} (h:r<=64):min r IntKind.u64.bits=r:=by show min r 64=r;omega
theorem byte_sel {a k j r m s v b:Int} (ha:0<=a) (hk:0<=k/\k<48) (hj:j=k/8) (hr:r=k%8) (hm:m=8*r)
  (hs:s=([lim a 0,lim a 1,lim a 2,lim a 3,lim a 4,lim a 5]:List Int).getD j.toNat 0) (hv:v=binE .shr .u64 s m) (hb:b=wr .u8 v):b=byteAt a k.toNat:=by
 have h1:=selW (by omega) hs
 have h2:=shr_d _ hv rfl (Int.natCast_nonneg _)
 rw [min64 (by omega)] at h2
 rw [hb,h2,h1,lim_div]
 unfold byteAt
 obtain ⟨x,rfl⟩:=Int.eq_ofNat_of_zero_le ha
 have hc:=chunk (x/2^(64*j.toNat)) m.toNat (by omega)
 rw [Nat.div_div_eq_div_mul,<- Nat.pow_add,show 64*j.toNat+m.toNat=8*k.toNat by omega] at hc
 have hc:=congrArg Int.ofNat hc
 generalize 2^m.toNat=u at *
 show (_:Int)%256=_
 have e1:((2:Int)^(64*j.toNat))=((2^(64*j.toNat):Nat):Int):=by rw [Int.natCast_pow];rfl
 have e2:((2:Int)^(8*k.toNat))=((2^(8*k.toNat):Nat):Int):=by rw [Int.natCast_pow];rfl
 rw [e1,e2]
 generalize 2^(64*j.toNat)=y at *
 generalize 2^(8*k.toNat)=z at *
 exact hc
theorem quo_ {i v:Int} (d:Int) (hd:0<d) (hi:0<=i/\i<9223372036854775808) (h:v=binE .quo .i64 i d):v=i/d:=by
 have h0:0<=i/d:=Int.ediv_nonneg hi.1 (by omega)
 have h1:i/d<=i:=Int.ediv_le_self _ hi.1
 rw [h];simp only [binE,wr]
 rw [Int.tdiv_eq_ediv_of_nonneg hi.1]
 omega
theorem rem_ {i v:Int} (d:Int) (hi:0<=i) (h:v=binE .rem .i64 i d):v=i%d:=by
 rw [h];simp only [binE]
 rw [Int.tmod_eq_emod_of_nonneg hi]
theorem mul8 {r v:Int} (hr:0<=r/\r<8) (h:v=binE .mul .i64 8 r):v=8*r:=by
 rw [h];simp only [binE,wr];omega
theorem sub_ {a b v:Int} (h:v=binE .sub .i64 a b) (h0:-9223372036854775808<=a-b/\a-b<=9223372036854775807):v=a-b:=by
 rw [h];simp only [binE,wr];omega
theorem add_ {a b v:Int} (h:v=binE .add .i64 a b) (h0:-9223372036854775808<=a+b/\a+b<=9223372036854775807):v=a+b:=by
 rw [h];simp only [binE,wr];omega
theorem put_joinW {q k v d p0 p1 p2 p3 p4 p5:Int} (hq:0<=q/\q<N384) (hk:0<=k/\k<6) (hv:v=lim q k.toNat+d)
  (h0:p0=if k=((0:Nat):Int) then v else lim q 0) (h1:p1=if k=((1:Nat):Int) then v else lim q 1) (h2:p2=if k=((2:Nat):Int) then v else lim q 2) (h3:p3=if k=((3:Nat):Int) then v else lim q 3) (h4:p4=if k=((4:Nat):Int) then v else lim q 4) (h5:p5=if k=((5:Nat):Int) then v else lim q 5) :
  joinE [p0,p1,p2,p3,p4,p5]=q+d*2^(64*k.toNat):=by
 have ex:=lim_eq hq
 rw [joinE6]
 have:k=0∨k=1∨k=2∨k=3∨k=4∨k=5:=by omega
 have p0':(2:Int)^(64*0)=1:=rfl
 have p1':(2:Int)^(64*1)=18446744073709551616:=p64'
 have p2':(2:Int)^(64*2)=340282366920938463463374607431768211456:=p128
 have p3':(2:Int)^(64*3)=6277101735386680763835789423207666416102355444464034512896:=by decide +kernel
 have p4':(2:Int)^(64*4)=115792089237316195423570985008687907853269984665640564039457584007913129639936:=by decide +kernel
 have p5':(2:Int)^(64*5)=2135987035920910082395021706169552114602704522356652769947041607822219725780640550022962086936576:=by decide +kernel
 rcases this with h | h | h | h | h | h <;> subst h
 ·rw [show (0:Int).toNat=0 from rfl] at *
  rw [p0',h0,h1,h2,h3,h4,h5];simp [hv];omega
 ·rw [show (1:Int).toNat=1 from rfl] at *
  rw [p1',h0,h1,h2,h3,h4,h5];simp [hv];omega
 ·rw [show (2:Int).toNat=2 from rfl] at *
  rw [p2',h0,h1,h2,h3,h4,h5];simp [hv];omega
 ·rw [show (3:Int).toNat=3 from rfl] at *
  rw [p3',h0,h1,h2,h3,h4,h5];simp [hv];omega
 ·rw [show (4:Int).toNat=4 from rfl] at *
  rw [p4',h0,h1,h2,h3,h4,h5];simp [hv];omega
 ·rw [show (5:Int).toNat=5 from rfl] at *
  rw [p5',h0,h1,h2,h3,h4,h5];simp [hv];omega
theorem shl_sm {v c m:Int} (hc:0<=c) (hm:0<=m/\m<=64) (h:v=binE .shl .u64 c m) (hlt:c*2^m.toNat<18446744073709551616):v=c*2^m.toNat:=by
 have h1:=shl_d _ h rfl
 rw [min64 (by omega),Int.natCast_pow] at h1
 have:(0:Int)<=c*2^m.toNat:=Int.mul_nonneg hc (Int.pow_nonneg (by decide))
 rw [h1]
 show c*2^m.toNat%18446744073709551616=_
 exact Int.emod_eq_of_lt this hlt
theorem put_byte {q i k r m s sh v c p0 p1 p2 p3 p4 p5:Int} (hq:0<=q/\q<N384) (hi:0<=i/\i<48) (hk:k=i/8) (hr:r=i%8) (hm:m=8*r) (hc:0<=c/\c<=255)
  (hs:s=([lim q 0,lim q 1,lim q 2,lim q 3,lim q 4,lim q 5]:List Int).getD k.toNat 0) (hsh:sh=binE .shl .u64 c m) (hv:v=binE .or .u64 s sh)
  (h0:p0=if k=((0:Nat):Int) then v else lim q 0) (h1:p1=if k=((1:Nat):Int) then v else lim q 1) (h2:p2=if k=((2:Nat):Int) then v else lim q 2) (h3:p3=if k=((3:Nat):Int) then v else lim q 3) (h4:p4=if k=((4:Nat):Int) then v else lim q 4) (h5:p5=if k=((5:Nat):Int) then v else lim q 5)
  {Q:Int} (hd:q=2^(8*(i+1).toNat)*Q) (hQ:0<=Q):joinE [p0,p1,p2,p3,p4,p5]=q+c*2^(8*i.toNat):=by
 have hsl:=selW (by omega) hs
 have hpr:(0:Int)<2^(8*r.toNat):=Int.pow_pos (by decide)
 have e8:(2:Int)^(8*r.toNat+8)=2^(8*r.toNat)*256:=by rw [Int.pow_add];rfl
 have e1:q/2^(64*k.toNat)=2^(8*r.toNat+8)*Q:=by
  rw [hd,show 8*(i+1).toNat=64*k.toNat+(8*r.toNat+8) by omega,Int.pow_add,Int.mul_assoc]
  exact Int.mul_ediv_cancel_left _ (Int.ne_of_gt (Int.pow_pos (by decide)))
 have e2:(18446744073709551616:Int)=2^(8*r.toNat+8)*2^(56-8*r.toNat):=by
  rw [<- Int.pow_add,show 8*r.toNat+8+(56-8*r.toNat)=64 by omega,p64']
 have e3:s=2^(8*r.toNat+8)*(Q%2^(56-8*r.toNat)):=by
  rw [hsl,lim_div,e1,e2,Int.mul_emod_mul_of_pos _ _ (by rw [e8];omega)]
 have hp2:(0:Int)<2^(56-8*r.toNat):=Int.pow_pos (by decide)
 have hw0:=Int.emod_nonneg Q (show (2:Int)^(56-8*r.toNat)≠0 by omega)
 have hw1:=Int.emod_lt_of_pos Q hp2
 have h6:2^(8*r.toNat+8)*(Q%2^(56-8*r.toNat)+1)<=2^(8*r.toNat+8)*2^(56-8*r.toNat):=Int.mul_le_mul_of_nonneg_left (by omega) (by rw [e8];omega)
 rw [<- e2,Int.mul_add,<- e3,Int.mul_one,e8] at h6
 have hcb:c*2^(8*r.toNat)<=255*2^(8*r.toNat):=Int.mul_le_mul_of_nonneg_right hc.2 (by omega)
 have hs0:0<=s:=by rw [hsl];exact (lim_lt q _).1
 have hc0:0<=c*2^(8*r.toNat):=Int.mul_nonneg hc.1 (by omega)
 have hm':m.toNat=8*r.toNat:=by omega
 have hsh':=shl_sm hc.1 (by omega) hsh (by rw [hm'];omega)
 rw [hm'] at hsh'
 have hvs:v=s+c*2^(8*r.toNat):=by
  rw [hsh'] at hv
  refine or_dis (k:=8*r.toNat+8) (q:=Q%2^(56-8*r.toNat)) hv (by rw [Int.natCast_pow,e3,Int.mul_comm];rfl) hw0 ⟨hc0,?_⟩ (by omega)
  rw [Int.natCast_pow]
  show _<(2:Int)^(8*r.toNat+8)
  rw [e8];omega
 have:=put_joinW (d:=c*2^(8*r.toNat)) hq (by omega) (hvs.trans (by rw [hsl])) h0 h1 h2 h3 h4 h5
 rw [this,Int.mul_assoc,<- Int.pow_add,show 8*r.toNat+64*k.toNat=8*i.toNat by omega]
def kWBytes (te:TypeId) (f:FuncId):K:={fn:=f,ext:=false,ins:=[iN],outs:=[.lst te (.int .u8)],pre:=fun _=>True,sem:=fun | [a]=>[enc (bytesV a)] | _=>[] }
noncomputable def kWRead (f:FuncId):K:={fn:=f,ext:=false,ins:=[.lst (.int .u8)],outs:=[oN,oI],pre:=fun _=>True,sem:=fun | [l]=>if (dec l).length<=48 then [readV (dec l),0] else [0,3] | _=>[] }
theorem set_mid (l:List Int) (i n:Nat) (hl:l.length=i+(n+1)):(l.take i++List.replicate (n+1) 0).set i (l.getD i 0)=l.take (i+1)++List.replicate n 0:=by
 have h1:(l.take i).length=i:=by rw [List.length_take];omega
 rw [List.set_append_right _ _ (by omega),h1,Nat.sub_self,List.replicate_succ,List.set_cons_zero,List.take_succ_eq_append_getElem (by omega),List.append_assoc,List.getD_eq_getElem?_getD,List.getElem?_eq_getElem (by omega)];rfl
theorem bytesV_at (a:Int) {i:Int} (h:0<=i/\i<48):(bytesV a).getD i.toNat 0=byteAt a (47-i).toNat:=by
 rw [List.getD_eq_getElem?_getD,List.getElem?_eq_getElem (by rw [bytesV_len];omega),Option.getD_some,bytesV_get a (by omega)]
 congr 1;omega
def tWBytes:Tree:=(.lett 1 .bit (.cmp .leq (.lit 0) (.lit 48))
(.lett 2 .bit (.cmp .lss (.lit 48) (.lit 4294967296))
(.nz (.var 1)
(.nz (.var 2)
(.lett 3 (.lst (.int .u8)) (.lrep (.lit 48) (.lit 0))
(.lett 4 (.int .i64) (.llen (.var 3))
(.loop [.lit 0,.var 3] [(.int .i64),(.lst (.int .u8))] 5
(.lett 7 .bit (.cmp .lss (.var 5) (.var 4))
(.split 7
(.lett 8 (.int .i64) (.bin .sub .i64 (.lit 47) (.var 5))
(.lett 9 (.int .i64) (.bin .quo .i64 (.var 8) (.lit 8))
(.lett 10 .bit (.cmp .leq (.lit 0) (.var 9))
(.lett 11 .bit (.cmp .lss (.var 9) (.lit 6))
(.nz (.var 10)
(.nz (.var 11)
(.lett 12 (.int .u64) (.sel (.var 9) [.limb 0 0,.limb 0 1,.limb 0 2,.limb 0 3,.limb 0 4,.limb 0 5])
(.lett 13 (.int .i64) (.bin .rem .i64 (.var 8) (.lit 8))
(.lett 14 (.int .i64) (.bin .mul .i64 (.lit 8) (.var 13))
(.lett 15 .bit (.cmp .leq (.lit 0) (.var 14))
(.lett 16 (.int .u64) (.bin .shr .u64 (.var 12) (.var 14))
(.nz (.var 15)
(.lett 17 (.int .u8) (.conv .u8 (.var 16))
(.lett 18 (.int .i64) (.llen (.var 6))
(.lett 19 .bit (.cmp .leq (.lit 0) (.var 5))
(.lett 20 .bit (.cmp .lss (.var 5) (.var 18))
(.nz (.var 19)
(.nz (.var 20)
(.lett 21 (.lst (.int .u8)) (.lput (.var 6) (.var 5) (.var 17))
(.lett 22 (.int .i64) (.bin .add .i64 (.var 5) (.lit 1))
(.back 0 [.var 22,.var 21])))))))))))))))))))))
(.ret [.var 6]))))))))))
theorem law_wBytes (te:TypeId) (f:FuncId) (e:Nat->Int) (hk:kkHas [.num] [e 0]):tWBytes.says [] ⟨fun ys=>ys=(kWBytes te f).sem [e 0],[]⟩ e:=by
 have h0:0<=e 0:=hk.1.1
 intro a1 _ a2 _
 refine ⟨bit_nz a1 (show (0:Int)<=48 by decide),lt_nz a2 (show (48:Int)<4294967296 by decide),fun a3 _ a4 _=>?_⟩
 have d3:dec (e 3)=List.replicate 48 0:=by rw [show e 3=enc (List.replicate 48 0) from a3,dec_enc]
 have v4:e 4=48:=by rw [show e 4=((dec (e 3)).length:Int) from a4,d3];rfl
 refine ⟨fun | [i,q]=>(0<=i/\i<=48)/\q=enc ((bytesV (e 0)).take i.toNat++List.replicate (48-i.toNat) 0) | _=>False,fun | [i,_]=>(48-i).toNat | _=>0,⟨⟨Int.le_refl _,(show (0:Int)<=48 by decide)⟩,a3⟩,fun e' he hkk hI=>?_⟩
 obtain ⟨⟨i0,i1⟩,q6⟩:(0<=e' 5/\e' 5<=48)/\e' 6=enc ((bytesV (e 0)).take (e' 5).toNat++List.replicate (48-(e' 5).toNat) 0):=hI
 rw [<- he 0 (by decide)] at q6 h0 ⊢
 have d6:=(congrArg dec q6).trans (dec_enc _)
 have v4:=(he 4 (by decide)).trans v4
 clear he hkk a1 a2 a3 a4 d3
 intro a7 _
 have b7:=c_lt a7
 simp only [ev_var] at b7
 refine ⟨fun h=>?_,fun h=>?_⟩
 ·have c7:e' 5<48:=by have:=b_yes b7 h;omega
  intro a8 _ a9 _ a10 _ a11 _
  have v8:=sub_ (a:=47) (b:=e' 5) a8 (by omega)
  have v9:=quo_ (i:=e' 8) 8 (by decide) (by omega) a9
  refine ⟨bit_nz a10 (by show 0<=e' 9;omega),lt_nz a11 (by show e' 9<6;omega),fun a12 _ a13 _ a14 _ a15 _ a16 _=>?_⟩
  have v13:=rem_ (i:=e' 8) 8 (by omega) a13
  have v14:=mul8 (r:=e' 13) (by omega) a14
  refine ⟨bit_nz a15 (by show 0<=e' 14;omega),fun a17 _ a18 _ a19 _ a20 _=>?_⟩
  have v17:=byte_sel h0 (k:=e' 8) (by omega) v9 v13 v14 a12 a16 a17
  have hlen:(dec (e' 6)).length=48:=by rw [d6,List.length_append,List.length_take,List.length_replicate,bytesV_len];omega
  have v18:e' 18=48:=by rw [show e' 18=((dec (e' 6)).length:Int) from a18,hlen];rfl
  refine ⟨bit_nz a19 i0,lt_nz a20 (by show e' 5<e' 18;omega),fun a21 _ a22 _=>?_⟩
  have v22:=add_ (a:=e' 5) (b:=1) a22 (by omega)
  show ((0<=e' 22/\e' 22<=48)/\e' 21=enc ((bytesV (e' 0)).take (e' 22).toNat++List.replicate (48-(e' 22).toNat) 0))/\(48-e' 22).toNat<(48-e' 5).toNat
  refine ⟨⟨by omega,?_⟩,by omega⟩
  rw [show e' 21=enc ((dec (e' 6)).set (e' 5).toNat (e' 17)) from a21,d6,v17,v8,<- bytesV_at _ ⟨i0,c7⟩,show 48-(e' 5).toNat=48-(e' 22).toNat+1 by omega,set_mid _ _ _ (by rw [bytesV_len];omega),show (e' 5).toNat+1=(e' 22).toNat by omega]
 ·have c7:e' 5=48:=by have:=b_no b7 h;omega
  show [e' 6]=[enc (bytesV (e' 0))]
  rw [q6,c7,show (48:Int).toNat=48 from rfl,Nat.sub_self,List.replicate_zero,List.append_nil,List.take_of_length_le (by rw [bytesV_len];exact Nat.le_refl _)]
theorem readV_app (l:List Int) (c:Int):readV (l++[c])=256*readV l+c:=by simp [readV]
theorem readV_take {l:List Int} {i:Nat} (h:i<l.length):readV (l.take (i+1))=256*readV (l.take i)+l.getD i 0:=by
 rw [List.take_succ_eq_append_getElem h,readV_app,List.getD_eq_getElem?_getD,List.getElem?_eq_getElem h];rfl
theorem readV_rng {l:List Int} (h:∀ z∈l,(0:Int)<=z/\z<=255):0<=readV l/\readV l<2^(8*l.length):=by
 suffices hs:∀ n,n<=l.length->0<=readV (l.take n)/\readV (l.take n)<2^(8*n) by
  have:=hs l.length (Nat.le_refl _)
  rwa [List.take_of_length_le (Nat.le_refl _)] at this
 intro n
 induction n with
 | zero=>intro _;exact ⟨Int.le_refl _,(show (0:Int)<1 by decide)⟩
 | succ n ih =>
  intro hn
  obtain ⟨h1,h2⟩:=ih (by omega)
  have hz:=h _ (List.getElem_mem (show n<l.length by omega))
  rw [readV_take (by omega),List.getD_eq_getElem?_getD,List.getElem?_eq_getElem (by omega),Option.getD_some,show 8*(n+1)=8*n+8 by omega,Int.pow_add,show (2:Int)^8=256 from rfl]
  omega
theorem b_has {l:List Int} (h:(LK.int .u8).hasL l) {i:Nat} (hi:i<l.length):0<=l.getD i 0/\l.getD i 0<=255:=by
 rw [List.getD_eq_getElem?_getD,List.getElem?_eq_getElem hi]
 exact h.2 _ (List.getElem_mem hi)
theorem read_step {l:List Int} {i:Nat} {o o':Int} (hl:(LK.int .u8).hasL l) (hi:i<l.length) (ho:o=readV (l.take i)*2^(8*(l.length-i))) (ho':o'=o+l.getD i 0*2^(8*(l.length-1-i))):o'=readV (l.take (i+1))*2^(8*(l.length-(i+1))):=by
 rw [ho',ho,readV_take hi,show 8*(l.length-i)=8*(l.length-1-i)+8 by omega,show 8*(l.length-(i+1))=8*(l.length-1-i) by omega,Int.pow_add,show (2:Int)^8=256 from rfl]
 generalize (2:Int)^(8*(l.length-1-i))=z
 grind
theorem read_div {l:List Int} {i:Nat} {o:Int} (hi:i<l.length) (ho:o=readV (l.take i)*2^(8*(l.length-i))) {k:Int} (hk:k=l.length-1-i):o=2^(8*(k+1).toNat)*readV (l.take i):=by
 rw [ho,Int.mul_comm,show l.length-i=(k+1).toNat by omega]
theorem take_all {l:List Int} (h:(LK.int .u8).hasL l) (n:Nat):0<=readV (l.take n):=(readV_rng fun z hz=>h.2 z (List.mem_of_mem_take hz)).1
def tWRead:Tree:=(.lett 1 (.int .i64) (.llen (.var 0))
(.lett 2 .bit (.cmp .gtr (.var 1) (.lit 48))
(.split 2
(.ret [.lit 0,.lit 3])
(.lett 3 (.int .i64) (.llen (.var 0))
(.loop [.lit 0,.lit 0] [(.int .i64),.num] 4
(.lett 6 .bit (.cmp .lss (.var 4) (.var 3))
(.split 6
 (.lett 7 (.int .i64) (.llen (.var 0))
 (.lett 8 .bit (.cmp .leq (.lit 0) (.var 4))
 (.lett 9 .bit (.cmp .lss (.var 4) (.var 7))
 (.nz (.var 8)
 (.nz (.var 9)
 (.lett 10 (.int .u8) (.lget (.var 0) (.var 4))
 (.lett 11 (.int .i64) (.llen (.var 0))
 (.lett 12 (.int .i64) (.bin .sub .i64 (.var 11) (.lit 1))
 (.lett 13 (.int .i64) (.bin .sub .i64 (.var 12) (.var 4))
 (.lett 62 (.int .i64) (.bin .quo .i64 (.var 13) (.lit 8))
 (.lett 110 .bit (.cmp .leq (.lit 0) (.var 62))
 (.lett 111 .bit (.cmp .lss (.var 62) (.lit 6))
 (.nz (.var 110)
 (.nz (.var 111)
 (.lett 158 (.int .u64) (.sel (.var 62) [.limb 5 0,.limb 5 1,.limb 5 2,.limb 5 3,.limb 5 4,.limb 5 5])
 (.lett 350 (.int .i64) (.bin .rem .i64 (.var 13) (.lit 8))
 (.lett 398 (.int .i64) (.bin .mul .i64 (.lit 8) (.var 350))
 (.lett 446 .bit (.cmp .leq (.lit 0) (.var 398))
 (.lett 447 (.int .u64) (.bin .shl .u64 (.var 10) (.var 398))
 (.nz (.var 446)
 (.lett 494 (.int .u64) (.bin .or .u64 (.var 158) (.var 447))
 (.lett 542 .bit (.cmp .leq (.lit 0) (.var 62))
 (.lett 543 .bit (.cmp .lss (.var 62) (.lit 6))
 (.nz (.var 542)
 (.nz (.var 543)
 (.lett 590 (.int .u64) (.put (.var 62) 0 (.var 494) (.limb 5 0))
 (.lett 591 (.int .u64) (.put (.var 62) 1 (.var 494) (.limb 5 1))
 (.lett 592 (.int .u64) (.put (.var 62) 2 (.var 494) (.limb 5 2))
 (.lett 593 (.int .u64) (.put (.var 62) 3 (.var 494) (.limb 5 3))
 (.lett 594 (.int .u64) (.put (.var 62) 4 (.var 494) (.limb 5 4))
 (.lett 595 (.int .u64) (.put (.var 62) 5 (.var 494) (.limb 5 5))
 (.lett 638 (.int .i64) (.bin .add .i64 (.var 4) (.lit 1))
 (.lett 639 .num (.join [.var 590,.var 591,.var 592,.var 593,.var 594,.var 595])
 (.back 0 [.var 638,.var 639]))))))))))))))))))))))))))))))))))
 (.ret [.var 5,.lit 0]))))))))
theorem law_wRead (f:FuncId) (e:Nat->Int) (hk:kkHas [.lst (.int .u8)] [e 0]):tWRead.says [] ⟨fun ys=>ys=(kWRead f).sem [e 0],[]⟩ e:=by
 obtain ⟨l,d0⟩:∃ l,dec (e 0)=l:=⟨_,rfl⟩
 have hl:(LK.int .u8).hasL l:=by rw [<- d0];exact hk.1
 show tWRead.says _ ⟨fun ys=>ys=if (dec (e 0)).length<=48 then [readV (dec (e 0)),0] else [0,3],[]⟩ e
 rw [d0]
 clear hk
 intro a1 _ a2 _
 have v1:e 1=(l.length:Int):=by rw [<- d0];exact a1
 have b2:=c_gt a2
 simp only [ev_var,ev_lit] at b2
 refine ⟨fun h=>?_,fun h=>?_⟩
 ·have:=b_yes b2 h
  rw [if_neg (by omega)];rfl
 have hn:l.length<=48:=by have:=b_no b2 h;omega
 rw [if_pos hn]
 intro a3 _
 have v3:e 3=(l.length:Int):=by rw [<- d0];exact a3
 refine ⟨fun | [i,o]=>(0<=i/\i<=l.length)/\o=readV (l.take i.toNat)*2^(8*(l.length-i.toNat)) | _=>False,fun | [i,_]=>(l.length-i).toNat | _=>0,⟨⟨Int.le_refl _,(show (0:Int)<=l.length by omega)⟩,(show (0:Int)=0*_ by rw [Int.zero_mul])⟩,fun e' he hkk hI=>?_⟩
 obtain ⟨⟨i0,i1⟩,q5⟩:(0<=e' 4/\e' 4<=l.length)/\e' 5=readV (l.take (e' 4).toNat)*2^(8*(l.length-(e' 4).toNat)):=hI
 have k5:0<=e' 5/\e' 5<N384:=hkk.2.1
 have d0:=(congrArg dec (he 0 (by decide))).trans d0
 have v3:=(he 3 (by decide)).trans v3
 clear he hkk a1 a2 a3 v1 b2 h
 intro a6 _
 have b6:=c_lt a6
 simp only [ev_var] at b6
 refine ⟨fun h=>?_,fun h=>?_⟩
 ·have c6:e' 4<l.length:=by have:=b_yes b6 h;omega
  intro a7 _ a8 _ a9 _
  have v7:e' 7=(l.length:Int):=by rw [<- d0];exact a7
  refine ⟨bit_nz a8 i0,lt_nz a9 (by show e' 4<e' 7;omega),fun a10 _ a11 _ a12 _ a13 _ a62 _ a110 _ a111 _=>?_⟩
  have v10:e' 10=l.getD (e' 4).toNat 0:=by rw [<- d0];exact a10
  have v11:e' 11=(l.length:Int):=by rw [<- d0];exact a11
  have v12:=sub_ (a:=e' 11) (b:=1) a12 (by omega)
  have v13:=sub_ (a:=e' 12) (b:=e' 4) a13 (by omega)
  have v62:=quo_ (i:=e' 13) 8 (by decide) (by omega) a62
  refine ⟨bit_nz a110 (by show 0<=e' 62;omega),lt_nz a111 (by show e' 62<6;omega),fun a158 _ a350 _ a398 _ a446 _ a447 _=>?_⟩
  have v350:=rem_ (i:=e' 13) 8 (by omega) a350
  have v398:=mul8 (r:=e' 350) (by omega) a398
  refine ⟨bit_nz a446 (by show 0<=e' 398;omega),fun a494 _ a542 _ a543 _=>⟨bit_nz a542 (by show 0<=e' 62;omega),lt_nz a543 (by show e' 62<6;omega),fun a590 _ a591 _ a592 _ a593 _ a594 _ a595 _ a638 _ a639 _=>?_⟩⟩
  have hc:=b_has hl (i:=(e' 4).toNat) (by omega)
  rw [<- v10] at hc
  have hp:=put_byte k5 (i:=e' 13) (by omega) v62 v350 v398 hc a158 a447 a494 a590 a591 a592 a593 a594 a595 (read_div (by omega) q5 (by omega)) (take_all hl _)
  have v638:=add_ (a:=e' 4) (b:=1) a638 (by omega)
  show ((0<=e' 638/\e' 638<=l.length)/\e' 639=readV (l.take (e' 638).toNat)*2^(8*(l.length-(e' 638).toNat)))/\(l.length-e' 638).toNat<(l.length-e' 4).toNat
  refine ⟨⟨by omega,?_⟩,by omega⟩
  rw [show (e' 638).toNat=(e' 4).toNat+1 by omega]
  refine read_step hl (by omega) q5 ?_
  rw [<- v10,show l.length-1-(e' 4).toNat=(e' 13).toNat by omega]
  exact (show e' 639=joinE [e' 590,e' 591,e' 592,e' 593,e' 594,e' 595] from a639).trans hp
 ·have c6:e' 4=l.length:=by have:=b_no b6 h;omega
  show [e' 5,0]=[readV l,0]
  rw [q5,c6,Int.toNat_natCast,List.take_of_length_le (Nat.le_refl _),Nat.sub_self,Nat.mul_zero,Int.pow_zero,Int.mul_one]
noncomputable def kRBelow (f:FuncId):K:={fn:=f,ext:=false,ins:=[iN],outs:=[oB],pre:=fun _=>True,sem:=fun | [a]=>[bj (a<bP)] | _=>[] }
def eR:Nat:=((bP+1)/4).toNat
def rtV (a:Int):Int:=a^eR%bP
def lesV (c:Int):Int:=if bP/2<c then (-c)%bP else c
def sqV (a:Int):Prop:=rtV a*rtV a%bP=a%bP
open Classical in
noncomputable def rootV (a:Int):List Int:=if sqV a then [lesV (rtV a),0] else [0,6]
theorem rt_rng (a:Int):0<=rtV a/\rtV a<bP:=md_lt bP_pos
theorem les_rng {c:Int} (h:0<=c/\c<bP):0<=lesV c/\lesV c<bP:=by
 unfold lesV;split
 ·exact md_lt bP_pos
 ·exact h
theorem rtV_mod (a:Int):rtV (a%bP)=rtV a:=mdE_pow (Int.emod_emod_of_dvd _ (Int.dvd_refl _)) _
theorem sqV_mod (a:Int):sqV (a%bP)↔sqV a:=by unfold sqV;rw [rtV_mod,Int.emod_emod_of_dvd _ (Int.dvd_refl _)]
theorem neg_md {c:Int} (h0:0<c) (h1:c<bP):(-c)%bP=bP-c:=md_eq (-1) (by omega) (by omega) (by omega)
theorem les_prog {c:Int} (h:0<=c/\c<bP):(if (-c)%bP<c then (-c)%bP else c)=lesV c:=by
 unfold lesV
 have hodd:=bP_odd
 generalize bP=p at *
 by_cases h0:c=0
 ·subst h0
  rw [Int.neg_zero,Int.zero_emod,if_neg (by omega),if_neg (by omega)]
 ·have:(-c)%p=p-c:=md_eq (-1) (by omega) (by omega) (by omega)
  rw [this]
  by_cases hc:p/2<c
  ·rw [if_pos hc,if_pos (by omega)]
  ·rw [if_neg hc,if_neg (by omega)]
def kMPow (f:FuncId):K:={fn:=f,ext:=false,ins:=[iM,iN,iN],outs:=[oN],pre:=fun | [n,low,w,_,_]=>n=bP/\mGood n low w | _=>False,sem:=fun | [_,_,_,a,x]=>[a^x.toNat%bP] | _=>[] }
def kShR2 (f:FuncId):K:={fn:=f,ext:=false,ins:=[iN,.one (.cst (.int .i64 (.lit (-2))))],outs:=[oN],pre:=fun _=>True,sem:=fun | [a]=>[a/4] | _=>[] }
noncomputable def kMRoot (f:FuncId):K:={fn:=f,ext:=false,ins:=[iM,iN],outs:=[oN,oI],pre:=fun | [n,low,w,_]=>n=bP/\mGood n low w | _=>False,sem:=fun | [_,_,_,a]=>rootV a | _=>[] }
noncomputable def kAbove (f:FuncId):K:={fn:=f,ext:=false,ins:=[iN],outs:=[oB],pre:=fun _=>True,sem:=fun | [a]=>[bj (bP/2<a)] | _=>[] }
def side1V (x:Int):Int:=(x*x*x+4)%bP
noncomputable def kAt1 (f:FuncId):K:={fn:=f,ext:=false,ins:=[iN],outs:=[.agg lsPl,oB],pre:=fun _=>True,sem:=fun | [x]=>[x,(rootV (side1V x)).getD 0 0,0,bj (sqV (side1V x))] | _=>[] }
theorem low_nz {n low:Int} (h:mOk n low):low≠0:=fun h0=>by
 have:=h.1
 rw [h0,Int.mul_zero] at this
 exact absurd this (by decide)
theorem montv_cm (n a b:Int):montv n a b=montv n b a:=by unfold montv;rw [Int.mul_comm a b]
def tMPow:Tree:=(.lett 5 .bit (.cmp .eql (.var 1) (.lit 0))
(.split 5
(.ret [.lit 0])
(.req 3 [.var 0,.var 1,.var 2,.var 3,.var 2]
(.lett 294 .num (.app 3 0 [.var 0,.var 1,.var 2,.var 3,.var 2])
(.req 2 [.lit 1]
(.lett 390 .num (.app 2 0 [.lit 1])
(.req 3 [.var 0,.var 1,.var 2,.var 390,.var 2]
(.lett 630 .num (.app 3 0 [.var 0,.var 1,.var 2,.var 390,.var 2])
(.req 0 [.var 4]
(.lett 870 (.int .i64) (.app 0 0 [.var 4])
(.lett 871 (.int .i64) (.bin .sub .i64 (.var 870) (.lit 1))
(.loop [.var 871,.var 630] [(.int .i64),.num] 872
(.lett 874 .bit (.cmp .geq (.var 872) (.lit 0))
(.split 874
 (.req 3 [.var 0,.var 1,.var 2,.var 873,.var 873]
 (.lett 875 .num (.app 3 0 [.var 0,.var 1,.var 2,.var 873,.var 873])
 (.req 1 [.var 4,.var 872]
 (.lett 876 (.int .i64) (.app 1 0 [.var 4,.var 872])
 (.lett 877 .bit (.cmp .eql (.var 876) (.lit 1))
 (.split 877
 (.req 3 [.var 0,.var 1,.var 2,.var 875,.var 294]
 (.lett 878 .num (.app 3 0 [.var 0,.var 1,.var 2,.var 875,.var 294])
 (.lett 879 (.int .i64) (.bin .sub .i64 (.var 872) (.lit 1))
 (.back 0 [.var 879,.var 878]))))
 (.lett 878 (.int .i64) (.bin .sub .i64 (.var 872) (.lit 1))
 (.back 0 [.var 878,.var 875]))))))))
 (.req 2 [.lit 1]
 (.lett 971 .num (.app 2 0 [.lit 1])
 (.req 3 [.var 0,.var 1,.var 2,.var 873,.var 971]
 (.lett 1019 .num (.app 3 0 [.var 0,.var 1,.var 2,.var 873,.var 971])
 (.ret [.var 1019])))))))))))))))))))
theorem law_mPow (f1 f2 f3 f4 f:FuncId) (e:Nat->Int) (hk:kkHas [.num,.int .u64,.num,.num,.num] [e 0,e 1,e 2,e 3,e 4]) (hp:(kMPow f).pre [e 0,e 1,e 2,e 3,e 4]):tMPow.says [kWLen f1,kBit f2,kOf f3,kMont f4] ⟨fun ys=>ys=(kMPow f).sem [e 0,e 1,e 2,e 3,e 4],[]⟩ e:=by
 obtain ⟨q0,hm,hw⟩:e 0=bP/\mGood (e 0) (e 1) (e 2):=hp
 rw [q0] at hw
 have h4:0<=e 4/\e 4<N384:=hk.2.2.2.2.1
 have hwl:=wide_lt (n:=bP) bP_pos
 clear hk
 show tMPow.says _ ⟨fun ys=>ys=[e 3^(e 4).toNat%bP],[]⟩ e
 intro a5 _
 have b5:=c_eq a5
 refine ⟨fun h=>absurd (b_yes b5 h) (low_nz hm),fun _=>?_⟩
 refine ⟨⟨hm,.inr (by show e 2<e 0;rw [hw,q0];exact hwl.2)⟩,fun a294 _=>⟨trivial,fun a390 _=>?_⟩⟩
 have q294:e 294=toE (e 3):=by rw [show e 294=montv (e 0) (e 3) (e 2) from a294,q0,hw,montv_cm];exact E_to
 have v390:e 390=1:=a390
 refine ⟨⟨hm,.inr (by show e 2<e 0;rw [hw,q0];exact hwl.2)⟩,fun a630 _=>⟨trivial,fun a870 _ a871 _=>?_⟩⟩
 have q630:e 630=toE 1:=by rw [show e 630=montv (e 0) (e 390) (e 2) from a630,q0,hw,v390,montv_cm];exact E_to
 have v870:e 870=blen (e 4):=a870
 have b0:=blen_nn (e 4)
 have b1:=blen_le 384 (e 4) h4.1 (by rw [p384];exact h4.2)
 have v871:=sub_ (a:=e 870) (b:=1) a871 (by omega)
 clear a5 b5 a294 a390 v390 a630 a870 a871
 refine ⟨EPowI (e 3) (e 4),fun | [i,_]=>(i+1).toNat | _=>0,?_,fun e' he hkk hI=>?_⟩
 ·show EPowI (e 3) (e 4) [e 871,e 630]
  refine ⟨by omega,by omega,?_⟩
  rw [q630,v871,v870,Int.sub_add_cancel]
  have h1:e 4/2^(blen (e 4)).toNat=0:=by
   by_cases hc:e 4<2^(blen (e 4)).toNat
   ·exact Int.ediv_eq_zero_of_lt h4.1 hc
   ·have:=blen_gt (blen (e 4)).toNat (e 4) (by omega);omega
  rw [h1,Int.toNat_zero,Int.pow_zero]
 ·obtain ⟨i1,i2,i3⟩:EPowI (e 3) (e 4) [e' 872,e' 873]:=hI
  rw [<- he 3 (by decide)] at q294 i3
  rw [<- he 4 (by decide)] at h4 i3
  have e3:=he 3 (by decide)
  have e4:=he 4 (by decide)
  have q294:=(he 294 (by decide)).trans q294
  have q0:=(he 0 (by decide)).trans q0
  have hm:mOk (e' 0) (e' 1):=by rw [he 0 (by decide),he 1 (by decide)];exact hm
  rw [<- e3,<- e4]
  clear he hkk q630 v870 v871 b0 b1 hw e3 e4
  intro a874 _
  have b874:=c_ge a874
  simp only [ev_var,ev_lit] at b874
  refine ⟨fun hs=>?_,fun hs=>?_⟩
  ·have c874:0<=e' 872:=b_yes b874 hs
   obtain ⟨n,hi⟩:=Int.eq_ofNat_of_zero_le c874
   rw [hi,show ((n:Int)+1).toNat=n+1 by omega] at i3
   have hE:∀ {v X:Int},v=toE X->v<e' 0:=fun h=>by rw [q0];exact E_lt h
   refine ⟨⟨hm,.inl (hE i3)⟩,fun a875 _=>⟨trivial,fun a876 _ a877 _=>?_⟩⟩
   have q875:=E_mul (show e' 875=montv bP (e' 873) (e' 873) by rw [<- q0];exact a875) i3 i3
   have v876:e' 876=e' 4/2^n%2:=by
    rw [show e' 876=(if 0<=e' 872/\e' 872<384 then e' 4/2^(e' 872).toNat%2 else 0) from a876,if_pos ⟨c874,by omega⟩,hi,Int.toNat_natCast]
   have hh:=halves (i:=n) h4.1
   have b877:=c_eq a877
   simp only [ev_var,ev_lit] at b877
   refine ⟨fun hs2=>?_,fun hs2=>?_⟩
   ·have c877:e' 876=1:=b_yes b877 hs2
    refine ⟨⟨hm,.inl (hE q875)⟩,fun a878 _ a879 _=>?_⟩
    have q878:=E_mul (show e' 878=montv bP (e' 875) (e' 294) by rw [<- q0];exact a878) q875 q294
    have v879:=sub_ (a:=e' 872) (b:=1) a879 (by omega)
    show EPowI (e' 3) (e' 4) [e' 879,e' 878]/\(e' 879+1).toNat<(e' 872+1).toNat
    rw [v879,hi]
    refine ⟨⟨by omega,by omega,?_⟩,by omega⟩
    rw [show ((n:Int)-1+1).toNat=n by omega,q878,hh,<- v876,c877,<- Int.pow_add,<- Int.pow_succ]
    congr 2;omega
   ·have c877:e' 876=0:=by have:=b_no b877 hs2;omega
    intro a878 _
    have v878:=sub_ (a:=e' 872) (b:=1) a878 (by omega)
    show EPowI (e' 3) (e' 4) [e' 878,e' 875]/\(e' 878+1).toNat<(e' 872+1).toNat
    rw [v878,hi]
    refine ⟨⟨by omega,by omega,?_⟩,by omega⟩
    rw [show ((n:Int)-1+1).toNat=n by omega,q875,hh,<- v876,c877,<- Int.pow_add]
    congr 2;omega
  ·have c874:e' 872=-1:=by have:=b_no b874 hs;omega
   refine ⟨trivial,fun a971 _=>?_⟩
   have v971:e' 971=1:=a971
   rw [c874,show ((-1:Int)+1).toNat=0 from rfl,Int.pow_zero,Int.ediv_one] at i3
   refine ⟨⟨hm,.inl (by show e' 873<e' 0;rw [q0];exact E_lt i3)⟩,fun a1019 _=>?_⟩
   show [e' 1019]=_
   rw [show e' 1019=montv (e' 0) (e' 873) (e' 971) from a1019,q0,v971,E_from,i3,ofE_toE]
theorem or_62 {v s r ln lj:Int} (h:v=binE .or .u64 s r) (hs:s=binE .shl .u64 ln 62) (hr:r=binE .shr .u64 lj 2) (un:U ln) (uj:U lj):v=ln%4*4611686018427387904+lj/4:=by
 have h1:=shl_d 4611686018427387904 hs (by decide)
 have h2:=shr_d 4 hr rfl (by decide)
 unfold U at *
 simp only [wr] at h1
 rw [or_dis (k:=62) (q:=ln%4) h (by omega) (by omega) (by omega) (by omega)]
 omega
theorem or_02 {v r lj:Int} (h:v=binE .or .u64 0 r) (hr:r=binE .shr .u64 lj 2) (uj:U lj):v=lj/4:=by
 have h2:=shr_d 4 hr rfl (by decide)
 unfold U at *
 rw [or_dis (k:=63) (q:=0) h (by omega) (by omega) (by omega) (by omega)]
 omega
theorem quart_join {x o0 o1 o2 o3 o4 o5:Int} (hx:0<=x/\x<N384) (h0:o0=lim x 1%4*4611686018427387904+lim x 0/4) (h1:o1=lim x 2%4*4611686018427387904+lim x 1/4) (h2:o2=lim x 3%4*4611686018427387904+lim x 2/4)
  (h3:o3=lim x 4%4*4611686018427387904+lim x 3/4) (h4:o4=lim x 5%4*4611686018427387904+lim x 4/4) (h5:o5=lim x 5/4):joinE [o0,o1,o2,o3,o4,o5]=x/4:=by
 have ex:=lim_eq hx
 have l0:=lim_lt x 0
 have l1:=lim_lt x 1
 have l2:=lim_lt x 2
 have l3:=lim_lt x 3
 have l4:=lim_lt x 4
 have l5:=lim_lt x 5
 rw [joinE6]
 generalize lim x 0=x0 at *
 generalize lim x 1=x1 at *
 generalize lim x 2=x2 at *
 generalize lim x 3=x3 at *
 generalize lim x 4=x4 at *
 generalize lim x 5=x5 at *
 omega
def tShR2:Tree:=(.lett 1 (.int .u64) (.bin .shl .u64 (.limb 0 1) (.lit 62))
(.lett 386 (.int .u64) (.bin .shr .u64 (.limb 0 0) (.lit 2))
(.lett 434 (.int .u64) (.bin .or .u64 (.var 1) (.var 386))
(.lett 578 (.int .u64) (.bin .shl .u64 (.limb 0 2) (.lit 62))
(.lett 963 (.int .u64) (.bin .shr .u64 (.limb 0 1) (.lit 2))
(.lett 1011 (.int .u64) (.bin .or .u64 (.var 578) (.var 963))
(.lett 1155 (.int .u64) (.bin .shl .u64 (.limb 0 3) (.lit 62))
(.lett 1540 (.int .u64) (.bin .shr .u64 (.limb 0 2) (.lit 2))
(.lett 1588 (.int .u64) (.bin .or .u64 (.var 1155) (.var 1540))
(.lett 1732 (.int .u64) (.bin .shl .u64 (.limb 0 4) (.lit 62))
(.lett 2117 (.int .u64) (.bin .shr .u64 (.limb 0 3) (.lit 2))
(.lett 2165 (.int .u64) (.bin .or .u64 (.var 1732) (.var 2117))
(.lett 2309 (.int .u64) (.bin .shl .u64 (.limb 0 5) (.lit 62))
(.lett 2694 (.int .u64) (.bin .shr .u64 (.limb 0 4) (.lit 2))
(.lett 2742 (.int .u64) (.bin .or .u64 (.var 2309) (.var 2694))
(.lett 3270 (.int .u64) (.bin .shr .u64 (.limb 0 5) (.lit 2))
(.lett 3318 (.int .u64) (.bin .or .u64 (.lit 0) (.var 3270))
(.lett 3462 .num (.join [.var 434,.var 1011,.var 1588,.var 2165,.var 2742,.var 3318])
(.ret [.var 3462])))))))))))))))))))
theorem law_shR2 (f:FuncId) (e:Nat->Int) (hk:kkHas [.num] [e 0]):tShR2.says [] ⟨fun ys=>ys=(kShR2 f).sem [e 0],[]⟩ e:=by
 have h0:=hk.1
 have z:=U_lim e
 intro s1 _ r1 _ o1 _ s2 _ r2 _ o2 _ s3 _ r3 _ o3 _ s4 _ r4 _ o4 _ s5 _ r5 _ o5 _ r6 _ o6 _ aj _
 have hj:=quart_join h0 (or_62 o1 s1 r1 (z _ _) (z _ _)) (or_62 o2 s2 r2 (z _ _) (z _ _)) (or_62 o3 s3 r3 (z _ _) (z _ _)) (or_62 o4 s4 r4 (z _ _) (z _ _)) (or_62 o5 s5 r5 (z _ _) (z _ _)) (or_02 o6 r6 (z _ _))
 show [e 3462]=[e 0/4]
 rw [<- hj];exact congrArg (fun x=>[x]) aj
theorem and_bP:binE .and .u64 (lim bP 0) 3=3:=by decide +kernel
theorem eR_of:((bP+1)%N384/4).toNat=eR:=by decide +kernel
def tMRoot:Tree:=(.lett 4 .bit (.cmp .eql (.var 1) (.lit 0))
(.split 4
(.ret [.lit 0,.lit 1])
(.lett 5 (.int .u64) (.bin .and .u64 (.limb 0 0) (.lit 3))
(.lett 6 .bit (.cmp .eql (.var 5) (.lit 1))
(.split 6
 (.ret [.lit 0,.lit 2])
 (.req 1 [.lit 1]
 (.lett 199 .num (.app 1 0 [.lit 1])
 (.req 0 [.var 0,.var 199]
 (.lett 247 .num (.app 0 0 [.var 0,.var 199])
 (.lett 248 .bit (.app 0 1 [.var 0,.var 199])
 (.req 2 [.var 247]
 (.lett 727 .num (.app 2 0 [.var 247])
 (.req 3 [.var 0,.var 1,.var 2,.var 3,.var 727]
 (.lett 775 .num (.app 3 0 [.var 0,.var 1,.var 2,.var 3,.var 727])
 (.req 4 [.var 0,.var 1,.var 2,.var 775,.var 775]
 (.lett 1063 .num (.app 4 0 [.var 0,.var 1,.var 2,.var 775,.var 775])
 (.req 5 [.var 0,.var 1,.var 2,.var 3]
 (.lett 1207 .num (.app 5 0 [.var 0,.var 1,.var 2,.var 3])
 (.lett 1255 .bit (.eqs [((.limb 1063 0),(.limb 1207 0)),((.limb 1063 1),(.limb 1207 1)),((.limb 1063 2),(.limb 1207 2)),((.limb 1063 3),(.limb 1207 3)),((.limb 1063 4),(.limb 1207 4)),((.limb 1063 5),(.limb 1207 5))])
 (.lett 1256 .bit (.not (.var 1255))
 (.split 1256
 (.ret [.lit 0,.lit 6])
 (.req 6 [.var 0,.var 1,.var 2,.var 775]
 (.lett 1303 .num (.app 6 0 [.var 0,.var 1,.var 2,.var 775])
 (.req 7 [.var 1303,.var 775]
 (.lett 1304 (.int .i64) (.app 7 0 [.var 1303,.var 775])
 (.lett 1305 .bit (.cmp .lss (.var 1304) (.lit 0))
 (.split 1305
 (.ret [.var 1303,.lit 0])
 (.ret [.var 775,.lit 0]))))))))))))))))))))))))))))
theorem law_mRoot (f1 f2 f3 f4 f5 f6 f7 f8 f:FuncId) (e:Nat->Int) (hk:kkHas [.num,.int .u64,.num,.num] [e 0,e 1,e 2,e 3]) (hp:(kMRoot f).pre [e 0,e 1,e 2,e 3]):tMRoot.says [kWAdd f1,kOf f2,kShR2 f3,kMPow f4,kMMul f5,kReduce f6,kMNeg f7,kWCmp f8] ⟨fun ys=>ys=(kMRoot f).sem [e 0,e 1,e 2,e 3],[]⟩ e:=by
 obtain ⟨q0,hg⟩:e 0=bP/\mGood (e 0) (e 1) (e 2):=hp
 clear hk
 show tMRoot.says _ ⟨fun ys=>ys=rootV (e 3),[]⟩ e
 intro a4 _
 have b4:=c_eq a4
 refine ⟨fun h=>absurd (b_yes b4 h) (low_nz hg.1),fun _=>?_⟩
 intro a5 _ a6 _
 have v5:e 5=3:=by rw [show e 5=binE .and .u64 (lim (e 0) 0) 3 from a5,q0,and_bP]
 have b6:=c_eq a6
 refine ⟨fun h=>absurd (v5.symm.trans (b_yes b6 h)) (show ¬ (3:Int)=1 by decide),fun _=>⟨trivial,fun a199 _=>⟨trivial,fun a247 _ a248 _=>⟨trivial,fun a727 _=>⟨⟨q0,hg⟩,fun a775 _=>⟨hg,fun a1063 k1063=>⟨hg,fun a1207 k1207 a1255 _ a1256 _=>?_⟩⟩⟩⟩⟩⟩⟩
 have v775:e 775=rtV (e 3):=by
  rw [show e 775=e 3^(e 727).toNat%bP from a775,show e 727=e 247/4 from a727,show e 247=(e 0+e 199)%N384 from a247,show e 199=1 from a199,q0,eR_of];rfl
 have v1063:e 1063=rtV (e 3)*rtV (e 3)%bP:=by rw [show e 1063=e 775*e 775%e 0 from a1063,v775,q0]
 have v1207:e 1207=e 3%bP:=by rw [show e 1207=e 3%e 0 from a1207,q0]
 have b1255:=c_num a1255 k1063 k1207
 have b1256:=c_not a1256
 simp only [ev_var] at b1256
 rw [v1063,v1207] at b1255
 refine ⟨fun h=>?_,fun h=>?_⟩
 ·have hs:¬ sqV (e 3):=by
   have:=b_yes b1256 h
   rcases b1255 with ⟨h1,_⟩ | ⟨_,h2⟩
   ·omega
   ·exact h2
  show [(0:Int),6]=rootV (e 3)
  unfold rootV;rw [if_neg hs]
 have hs:sqV (e 3):=by
  have:=b_no b1256 h
  rcases b1255 with ⟨_,h2⟩ | ⟨h1,_⟩
  ·exact h2
  ·exact absurd h1 this
 have hr:=les_prog (rt_rng (e 3))
 refine ⟨hg,fun a1303 _=>⟨trivial,fun a1304 _ a1305 _=>?_⟩⟩
 have v1303:e 1303=(-rtV (e 3))%bP:=by rw [show e 1303=(-e 775)%e 0 from a1303,v775,q0]
 have v1304:=cmpV_lt (show e 1304=(if e 1303<e 775 then -1 else if e 1303=e 775 then 0 else 1) from a1304)
 rw [v775,v1303] at v1304
 have b1305:=c_lt a1305
 simp only [ev_var,ev_lit] at b1305
 refine ⟨fun h=>?_,fun h=>?_⟩
 ·have:=v1304.1 (b_yes b1305 h)
  rw [if_pos this] at hr
  show [e 1303,0]=rootV (e 3)
  unfold rootV;rw [if_pos hs,v1303,hr]
 ·have:¬ _:=fun hc=>b_no b1305 h (v1304.2 hc)
  rw [if_neg this] at hr
  show [e 775,0]=rootV (e 3)
  unfold rootV;rw [if_pos hs,v775,<- hr]
theorem cmpV_gt {v a b:Int} (h:v=if a<b then -1 else if a=b then 0 else 1):v > 0↔b<a:=by
 rw [h];split
 ·exact ⟨fun h=>absurd h (by decide),fun h=>by omega⟩
 ·split
  ·exact ⟨fun h=>absurd h (by decide),fun h=>by omega⟩
  ·exact ⟨fun _=>by omega,fun _=>by decide⟩
theorem above_of {v c x h:Int} (hh:h=bP/2) (hc:c=if x<h then -1 else if x=h then 0 else 1) (hv:(v=1/\c > 0)∨(v=0/\¬ c > 0)):v=bj (bP/2<x):=by
 have:=cmpV_gt hc
 rw [hh] at this
 exact bj_of (by
  rcases hv with ⟨h1,h2⟩ | ⟨h1,h2⟩
  ·exact .inl ⟨h1,this.1 h2⟩
  ·exact .inr ⟨h1,fun h=>h2 (this.2 h)⟩)
def tAbove:Tree:=(.req 2 []
(.lett 49 .num (.app 2 0 [])
(.req 1 [.var 49]
(.lett 97 .num (.app 1 0 [.var 49])
(.req 0 [.var 0,.var 97]
(.lett 145 (.int .i64) (.app 0 0 [.var 0,.var 97])
(.lett 193 .bit (.cmp .gtr (.var 145) (.lit 0))
(.ret [.var 193]))))))))
theorem law_above (f1 f2 f3 f:FuncId) (e:Nat->Int):tAbove.says [kWCmp f1,kShR1 f2,kMBase f3] ⟨fun ys=>ys=(kAbove f).sem [e 0],[]⟩ e:=by
 refine ⟨trivial,fun a49 _=>⟨trivial,fun a97 _=>⟨trivial,fun a145 _ a193 _=>?_⟩⟩⟩
 have b:=c_gt a193
 simp only [ev_var,ev_lit] at b
 show [e 193]=[bj (bP/2<e 0)]
 rw [above_of (x:=e 0) (h:=e 97) (by rw [show e 97=e 49/2 from a97,show e 49=bP from a49]) a145 b]
def tAt1:Tree:=(.req 1 []
(.lett 1 .num (.app 1 0 [])
(.req 0 [.var 1]
(.lett 2 .num (.app 0 0 [.var 1])
(.lett 3 (.int .u64) (.app 0 1 [.var 1])
(.lett 4 .num (.app 0 2 [.var 1])
(.req 4 [.var 2,.var 3,.var 4,.var 0,.var 0]
(.lett 293 .num (.app 4 0 [.var 2,.var 3,.var 4,.var 0,.var 0])
(.req 4 [.var 2,.var 3,.var 4,.var 293,.var 0]
(.lett 389 .num (.app 4 0 [.var 2,.var 3,.var 4,.var 293,.var 0])
(.req 5 [.lit 4]
(.lett 437 .num (.app 5 0 [.lit 4])
(.req 3 [.var 2,.var 3,.var 4,.var 389,.var 437]
(.lett 485 .num (.app 3 0 [.var 2,.var 3,.var 4,.var 389,.var 437])
(.req 2 [.var 2,.var 3,.var 4,.var 485]
(.lett 533 .num (.app 2 0 [.var 2,.var 3,.var 4,.var 485])
(.lett 534 (.int .i64) (.app 2 1 [.var 2,.var 3,.var 4,.var 485])
(.lett 869 .bit (.cmp .eql (.var 534) (.lit 0))
(.ret [.var 0,.var 533,.lit 0,.var 869])))))))))))))))))))
theorem law_at1 (te:TypeId) (f1 f2 f3 f4 f5 f6 f:FuncId) (e:Nat->Int):tAt1.says [kNew f1 te,kMBase f2,kMRoot f3,kMAdd f4,kMMul f5,kOf f6] ⟨fun ys=>ys=(kAt1 f).sem [e 0],[]⟩ e:=by
 show tAt1.says _ ⟨fun ys=>ys=[e 0,(rootV (side1V (e 0))).getD 0 0,0,bj (sqV (side1V (e 0)))],[]⟩ e
 refine ⟨trivial,fun a1 _=>?_⟩
 have q1:e 1=bP:=a1
 have h2:e 1%2=1:=by rw [q1];exact bP_odd
 have h3:3<=e 1:=by rw [q1];decide
 have h4:e 1<2^382:=by rw [q1];exact bP_382
 refine ⟨⟨h2,h3,h4⟩,fun a2 _ a3 _ a4 _=>?_⟩
 have v2:e 2=e 1:=a2
 have q2:e 2=bP:=v2.trans q1
 have hg:mGood (e 2) (e 3) (e 4):=by
  rw [v2,show e 3=lowOf (e 1) from a3,show e 4=wideOf (e 1) from a4];exact new_good h2 h3 h4
 refine ⟨hg,fun a293 _=>⟨hg,fun a389 _=>⟨trivial,fun a437 _=>⟨hg,fun a485 _=>⟨⟨q2,hg⟩,fun a533 _ a534 _ a869 _=>?_⟩⟩⟩⟩⟩
 have m1:e 293%bP=e 0*e 0%bP:=by rw [show e 293=e 0*e 0%e 2 from a293,q2,Int.emod_emod_of_dvd _ (Int.dvd_refl _)]
 have m2:e 389%bP=e 0*e 0*e 0%bP:=by
  rw [show e 389=e 293*e 0%e 2 from a389,q2,Int.emod_emod_of_dvd _ (Int.dvd_refl _)];exact mdE_mul m1 rfl
 have m3:e 485=side1V (e 0):=by
  rw [show e 485=(e 389+e 437)%e 2 from a485,q2,show e 437=4 from a437];exact mdE_add m2 rfl
 have v533:e 533=(rootV (e 485)).getD 0 0:=a533
 have v534:e 534=(rootV (e 485)).getD 1 0:=a534
 rw [m3] at v533 v534
 have b:=c_eq a869
 simp only [ev_var,ev_lit] at b
 show [e 0,e 533,0,e 869]=_
 rw [v533]
 refine congrArg (fun x=>[e 0,(rootV (side1V (e 0))).getD 0 0,0,x]) (bj_of ?_)
 by_cases hs:sqV (side1V (e 0))
 ·rw [rootV,if_pos hs] at v534
  rcases b with ⟨h1,_⟩ | ⟨_,h2⟩
  ·exact .inl ⟨h1,hs⟩
  ·exact absurd v534 h2
 ·rw [rootV,if_neg hs] at v534
  rcases b with ⟨_,h1⟩ | ⟨h2,_⟩
  ·rw [h1] at v534;exact absurd v534 (by decide)
  ·exact .inr ⟨h2,hs⟩
theorem le_nz {v w b:Int} (h:v=b2i (cmpE .leq w b)) (hw:w<=b):v≠0:=by have:=c_le h;omega
def flagV (y z:Int):Int:=if z=0 then (if bP/2<y then 160 else 128) else 192
def bytes1V (x y z:Int):List Int:=(bytesV x).set 0 (byteAt x 47+flagV y z)
open Classical in
noncomputable def fin1V (b:List Int) (x y z:Int):List Int:=if bytes1V x y z=b then (if inG x y z then [x,y,z,0] else [0,0,0,5]) else [0,0,0,4]
def bx0 (b:List Int):Int:=readV (b.set 0 (binE .and .u8 (b.getD 0 0) 31))
open Classical in
noncomputable def read1V (b:List Int):List Int :=
 if b.length≠48 then [0,0,0,4]
 else if binE .and .u8 (b.getD 0 0) 64=0 then
  if bx0 b<bP/\sqV (side1V (bx0 b)) then
   fin1V b (bx0 b) (if binE .and .u8 (b.getD 0 0) 32=0 then lesV (rtV (side1V (bx0 b))) else (-lesV (rtV (side1V (bx0 b))))%bP) 0
  else [0,0,0,4]
 else fin1V b 0 0 1
open Classical in
noncomputable def bytesR (x y z:Int):List Int:=if onV x y z then [enc (bytes1V x y z),0] else [0,5]
theorem bytesR_t {x y z:Int} (h:onV x y z):bytesR x y z=[enc (bytes1V x y z),0]:=if_pos h
theorem bytesR_f {x y z:Int} (h:¬ onV x y z):bytesR x y z=[0,5]:=if_neg h
noncomputable def kBytes1 (te:TypeId) (f:FuncId):K:={fn:=f,ext:=false,ins:=[.agg lsPl],outs:=[.lst te (.int .u8),oI],pre:=fun _=>True,sem:=fun | [x,y,z]=>bytesR x y z | _=>[] }
noncomputable def kRead1 (f:FuncId):K:={fn:=f,ext:=false,ins:=[.lst (.int .u8)],outs:=[.agg lsPl,oI],pre:=fun _=>True,sem:=fun | [l]=>read1V (dec l) | _=>[] }
set_option exponentiation.threshold 500 in
theorem bP_top:bP<32*2^(8*47):=by decide +kernel
set_option exponentiation.threshold 500 in
theorem top_byte {x:Int} (h0:0<=x) (h1:x<bP):0<=byteAt x 47/\byteAt x 47<32:=by
 have h2:x/2^(8*47)<32:=by
  exact Int.ediv_lt_of_lt_mul (Int.pow_pos (by decide)) (Int.lt_trans h1 bP_top)
 have h3:0<=x/2^(8*47):=Int.ediv_nonneg h0 (Int.pow_nonneg (by decide))
 unfold byteAt
 omega
theorem or8 {b:Int} (h:0<=b/\b<32):binE .or .u8 b 128=b+128/\binE .or .u8 (b+128) 64=b+192/\binE .or .u8 (b+128) 32=b+160/\binE .or .u8 b 192=b+192/\binE .or .u8 b 160=b+160:=by
 obtain ⟨n,rfl⟩:=Int.eq_ofNat_of_zero_le h.1
 have hd:∀ n:Fin 32,binE .or .u8 ((n.val:Nat):Int) 128=(n.val:Nat)+128/\binE .or .u8 ((n.val:Nat)+128) 64=(n.val:Nat)+192/\binE .or .u8 ((n.val:Nat)+128) 32=(n.val:Nat)+160/\binE .or .u8 ((n.val:Nat):Int) 192=(n.val:Nat)+192/\binE .or .u8 ((n.val:Nat):Int) 160=(n.val:Nat)+160:=by decide
 exact hd ⟨n,by omega⟩
theorem bytesV_0 (x:Int):(bytesV x).getD 0 0=byteAt x 47:=bytesV_at x (i:=0) ⟨by decide,by decide⟩
theorem set_0 (l:List Int) (c d:Int):(l.set 0 c).set 0 d=l.set 0 d:=List.set_set ..
theorem getD_set0 {l:List Int} (h:0<l.length) (c:Int):(l.set 0 c).getD 0 0=c:=by
 rw [List.getD_eq_getElem?_getD,List.getElem?_set_self h];rfl
def tBytes1:Tree:=(.req 0 [.var 0,.var 1,.var 2]
(.lett 3 .bit (.app 0 0 [.var 0,.var 1,.var 2])
(.lett 4 .bit (.not (.var 3))
(.split 4
(.ret [.lit 0,.lit 5])
(.req 1 [.var 0]
(.lett 101 (.lst (.int .u8)) (.app 1 0 [.var 0])
(.req 2 [.var 1]
(.lett 341 .bit (.app 2 0 [.var 1])
(.lett 533 (.int .i64) (.llen (.var 101))
(.lett 534 .bit (.cmp .leq (.lit 0) (.lit 0))
(.lett 535 .bit (.cmp .lss (.lit 0) (.var 533))
(.nz (.var 534)
(.nz (.var 535)
(.lett 536 (.int .u8) (.lget (.var 101) (.lit 0))
(.lett 537 (.int .u8) (.bin .or .u8 (.var 536) (.lit 128))
(.lett 538 (.int .i64) (.llen (.var 101))
(.lett 539 .bit (.cmp .leq (.lit 0) (.lit 0))
(.lett 540 .bit (.cmp .lss (.lit 0) (.var 538))
(.nz (.var 539)
(.nz (.var 540)
(.lett 541 (.lst (.int .u8)) (.lput (.var 101) (.lit 0) (.var 537))
(.split 2
 (.lett 542 (.int .i64) (.llen (.var 101))
 (.lett 543 .bit (.cmp .leq (.lit 0) (.lit 0))
 (.lett 544 .bit (.cmp .lss (.lit 0) (.var 542))
 (.nz (.var 543)
 (.nz (.var 544)
 (.lett 545 (.int .u8) (.lget (.var 541) (.lit 0))
 (.lett 546 (.int .u8) (.bin .or .u8 (.var 545) (.lit 64))
 (.lett 547 (.int .i64) (.llen (.var 101))
 (.lett 548 .bit (.cmp .leq (.lit 0) (.lit 0))
 (.lett 549 .bit (.cmp .lss (.lit 0) (.var 547))
 (.nz (.var 548)
 (.nz (.var 549)
 (.lett 550 (.lst (.int .u8)) (.lput (.var 541) (.lit 0) (.var 546))
 (.ret [.var 550,.lit 0]))))))))))))))
 (.split 341
 (.lett 542 (.int .i64) (.llen (.var 101))
 (.lett 543 .bit (.cmp .leq (.lit 0) (.lit 0))
 (.lett 544 .bit (.cmp .lss (.lit 0) (.var 542))
 (.nz (.var 543)
 (.nz (.var 544)
 (.lett 545 (.int .u8) (.lget (.var 541) (.lit 0))
 (.lett 546 (.int .u8) (.bin .or .u8 (.var 545) (.lit 32))
 (.lett 547 (.int .i64) (.llen (.var 101))
 (.lett 548 .bit (.cmp .leq (.lit 0) (.lit 0))
 (.lett 549 .bit (.cmp .lss (.lit 0) (.var 547))
 (.nz (.var 548)
 (.nz (.var 549)
 (.lett 550 (.lst (.int .u8)) (.lput (.var 541) (.lit 0) (.var 546))
 (.ret [.var 550,.lit 0]))))))))))))))
 (.ret [.var 541,.lit 0]))))))))))))))))))))))))
theorem law_bytes1 (te:TypeId) (f1 f2 f3 f:FuncId) (e:Nat->Int) (hk:kkHas [.num,.num,.bit] [e 0,e 1,e 2]):tBytes1.says [kCheck1 f1,kWBytes te f2,kAbove f3] ⟨fun ys=>ys=(kBytes1 te f).sem [e 0,e 1,e 2],[]⟩ e:=by
 have h0:0<=e 0:=hk.1.1
 show tBytes1.says _ ⟨fun ys=>ys=bytesR (e 0) (e 1) (e 2),[]⟩ e
 refine ⟨trivial,fun a3 _ a4 _=>?_⟩
 have v3:e 3=bj (onV (e 0) (e 1) (e 2)):=a3
 have b4:=c_not a4
 simp only [ev_var] at b4
 refine ⟨fun h=>?_,fun h=>?_⟩
 ·rw [bytesR_f (bj_z v3 (b_yes b4 h))];rfl
 have hon:=bj_nz v3 (b_no b4 h)
 rw [bytesR_t hon]
 have ht:=top_byte h0 hon.1.1
 have ho:=or8 ht
 refine ⟨trivial,fun a101 _=>⟨trivial,fun a341 _ a533 _ a534 _ a535 _=>?_⟩⟩
 have q101:e 101=enc (bytesV (e 0)):=a101
 have d101:dec (e 101)=bytesV (e 0):=by rw [q101,dec_enc]
 have v341:e 341=bj (bP/2<e 1):=a341
 have hlen:∀ {v:Int},v=((dec (e 101)).length:Int)->0<v:=fun h=>by rw [h,d101,bytesV_len];decide
 refine ⟨bit_nz a534 (Int.le_refl _),lt_nz a535 (hlen a533),fun a536 _ a537 _ a538 _ a539 _ a540 _=>⟨bit_nz a539 (Int.le_refl _),lt_nz a540 (hlen a538),fun a541 _=>?_⟩⟩
 have v536:e 536=byteAt (e 0) 47:=by rw [show e 536=(dec (e 101)).getD 0 0 from a536,d101,bytesV_0]
 have v537:e 537=byteAt (e 0) 47+128:=by rw [show e 537=binE .or .u8 (e 536) 128 from a537,v536,ho.1]
 have q541:e 541=enc ((bytesV (e 0)).set 0 (byteAt (e 0) 47+128)):=by rw [show e 541=enc ((dec (e 101)).set 0 (e 537)) from a541,d101,v537]
 have d541:=(congrArg dec q541).trans (dec_enc _)
 have hl0:0<(bytesV (e 0)).length:=by rw [bytesV_len];decide
 refine ⟨fun h=>?_,fun h=>⟨fun h2=>?_,fun h2=>?_⟩⟩
 ·intro a542 _ a543 _ a544 _
  refine ⟨bit_nz a543 (Int.le_refl _),lt_nz a544 (hlen a542),fun a545 _ a546 _ a547 _ a548 _ a549 _=>⟨bit_nz a548 (Int.le_refl _),lt_nz a549 (hlen a547),fun a550 _=>?_⟩⟩
  have v546:e 546=byteAt (e 0) 47+192:=by rw [show e 546=binE .or .u8 (e 545) 64 from a546,show e 545=(dec (e 541)).getD 0 0 from a545,d541,getD_set0 hl0,ho.2.1]
  show [e 550,0]=[enc (bytes1V (e 0) (e 1) (e 2)),0]
  rw [show e 550=enc ((dec (e 541)).set 0 (e 546)) from a550,d541,v546,set_0]
  unfold bytes1V flagV
  rw [if_neg h]
 ·intro a542 _ a543 _ a544 _
  refine ⟨bit_nz a543 (Int.le_refl _),lt_nz a544 (hlen a542),fun a545 _ a546 _ a547 _ a548 _ a549 _=>⟨bit_nz a548 (Int.le_refl _),lt_nz a549 (hlen a547),fun a550 _=>?_⟩⟩
  have v546:e 546=byteAt (e 0) 47+160:=by rw [show e 546=binE .or .u8 (e 545) 32 from a546,show e 545=(dec (e 541)).getD 0 0 from a545,d541,getD_set0 hl0,ho.2.2.1]
  show [e 550,0]=[enc (bytes1V (e 0) (e 1) (e 2)),0]
  rw [show e 550=enc ((dec (e 541)).set 0 (e 546)) from a550,d541,v546,set_0]
  unfold bytes1V flagV
  rw [if_pos h,if_pos (bj_nz v341 h2)]
 ·show [e 541,0]=[enc (bytes1V (e 0) (e 1) (e 2)),0]
  rw [q541]
  unfold bytes1V flagV
  rw [if_pos h,if_neg (bj_z v341 h2)]
theorem les_sq {c:Int}:lesV c*lesV c%bP=c*c%bP:=by
 unfold lesV;split
 ·have h:(-c)%bP%bP=(-c)%bP:=Int.emod_emod_of_dvd _ (Int.dvd_refl _)
  rw [mdE_mul h h,Int.neg_mul_neg]
 ·rfl
theorem on_sq {x y:Int} (hx:x<bP) (hy:y<bP) (h:y*y%bP=side1V x):onV x y 0:=⟨⟨hx,hy⟩,by rw [if_pos rfl];exact h⟩
theorem side_mod (x:Int):side1V x%bP=side1V x:=Int.emod_emod_of_dvd _ (Int.dvd_refl _)
theorem on_les {x:Int} (hx:x<bP) (h:sqV (side1V x)):onV x (lesV (rtV (side1V x))) 0:=on_sq hx (les_rng (rt_rng _)).2 (les_sq.trans (h.trans (side_mod x)))
theorem on_neg {x y:Int} (h:onV x y 0):onV x ((-y)%bP) 0:=by
 refine ⟨⟨h.1.1,(md_lt bP_pos).2⟩,?_⟩
 have h2:=h.2
 rw [if_pos rfl] at h2 ⊢
 have hm:(-y)%bP%bP=(-y)%bP:=Int.emod_emod_of_dvd _ (Int.dvd_refl _)
 rw [mdE_mul hm hm,Int.neg_mul_neg];exact h2
theorem on_zero:onV 0 0 1:=⟨⟨bP_pos,bP_pos⟩,by rw [if_neg (by decide)];exact ⟨rfl,rfl⟩⟩
theorem c_same {T:List K} {e:Nat->Int} {v:Int} {a b:A} (h:v=(D.lsame a b).ev T e):(v=1/\dec (a.ev e)=dec (b.ev e))∨(v=0/\¬ dec (a.ev e)=dec (b.ev e)):=by
 have h:v=b2i (dec (a.ev e)==dec (b.ev e)):=h
 by_cases hc:dec (a.ev e)=dec (b.ev e)
 ·exact .inl ⟨by rw [h,hc];simp [b2i],hc⟩
 ·exact .inr ⟨by rw [h];simp [b2i,hc],hc⟩
def tailP (n:Nat) (x y z:A):Tree:=.req 5 [x,y,z] (.lett n (.lst (.int .u8)) (.app 5 0 [x,y,z]) (.lett (n+1) (.int .i64) (.app 5 1 [x,y,z]) (.lett (n+2) .bit (.cmp .neq (.var (n+1)) (.lit 0)) (.split (n+2)
 (.ret [.lit 0,.lit 0,.lit 0,.lit 4])
 (.lett (n+3) .bit (.lsame (.var n) (.var 0)) (.lett (n+4) .bit (.not (.var (n+3))) (.split (n+4)
 (.ret [.lit 0,.lit 0,.lit 0,.lit 4])
 (.req 6 [x,y,z] (.lett (n+5) .bit (.app 6 0 [x,y,z]) (.lett (n+6) .bit (.not (.var (n+5))) (.split (n+6) (.ret [.lit 0,.lit 0,.lit 0,.lit 5]) (.ret [x,y,z,.lit 0]))))))))))))
theorem tailP_says {T:List K} {e:Nat->Int} {te:TypeId} {f1 f2:FuncId} (h5:T[5]?=some (kBytes1 te f1)) (h6:T[6]?=some (kInG1 f2)) (n:Nat) (x y z:A) {b:List Int} (hb:dec (e 0)=b) (hon:onV (x.ev e) (y.ev e) (z.ev e)) :
  (tailP n x y z).says T ⟨fun ys=>ys=fin1V b (x.ev e) (y.ev e) (z.ev e),[]⟩ e:=by
 unfold fin1V
 refine ⟨by rw [h5];trivial,fun a0 _ a1 _ a2 _=>?_⟩
 have v0:e n=enc (bytes1V (x.ev e) (y.ev e) (z.ev e)):=by
  have:e n=(bytesR (x.ev e) (y.ev e) (z.ev e)).getD 0 0:=by
   have:=a0;simp only [D.ev,h5] at this;exact this
  rw [bytesR_t hon] at this;exact this
 have v1:e (n+1)=0:=by
  have:e (n+1)=(bytesR (x.ev e) (y.ev e) (z.ev e)).getD 1 0:=by
   have:=a1;simp only [D.ev,h5] at this;exact this
  rw [bytesR_t hon] at this;exact this
 have b2:=c_ne a2
 simp only [ev_var,ev_lit] at b2
 refine ⟨fun h=>by rcases b2 with ⟨_,h2⟩ | ⟨h2,_⟩;exact absurd v1 h2;exact absurd h2 h,fun _=>fun a3 _ a4 _=>?_⟩
 have b3:=c_same a3
 have b4:=c_not a4
 simp only [ev_var] at b3 b4
 rw [v0,dec_enc,hb] at b3
 refine ⟨fun h=>?_,fun h=>?_⟩
 ·have:¬ bytes1V (x.ev e) (y.ev e) (z.ev e)=b:=by
   have:=b_yes b4 h
   rcases b3 with ⟨h1,_⟩ | ⟨_,h2⟩
   ·omega
   ·exact h2
  rw [if_neg this];rfl
 ·have:bytes1V (x.ev e) (y.ev e) (z.ev e)=b:=by
   have:=b_no b4 h
   rcases b3 with ⟨_,h2⟩ | ⟨h1,_⟩
   ·exact h2
   ·exact absurd h1 this
  rw [if_pos this]
  refine ⟨by rw [h6];trivial,fun a5 _ a6 _=>?_⟩
  have v5:e (n+5)=bj (inG (x.ev e) (y.ev e) (z.ev e)):=by
   have:=a5;simp only [D.ev,h6] at this;exact this
  have b6:=c_not a6
  simp only [ev_var] at b6
  refine ⟨fun h=>?_,fun h=>?_⟩
  ·rw [if_neg (bj_z v5 (b_yes b6 h))];rfl
  ·rw [if_pos (bj_nz v5 (b_no b6 h))];rfl
theorem read1V_len {b:List Int} (h:b.length≠48):read1V b=[0,0,0,4]:=if_pos h
theorem read1V_z {b:List Int} (h:b.length=48) (h2:¬ binE .and .u8 (b.getD 0 0) 64=0):read1V b=fin1V b 0 0 1:=by
 unfold read1V;rw [if_neg (fun hc=>hc h),if_neg h2]
theorem read1V_n {b:List Int} (h:b.length=48) (h2:binE .and .u8 (b.getD 0 0) 64=0) (h3:¬ (bx0 b<bP/\sqV (side1V (bx0 b)))):read1V b=[0,0,0,4]:=by
 unfold read1V;rw [if_neg (fun hc=>hc h),if_pos h2,if_neg h3]
theorem read1V_p {b:List Int} (h:b.length=48) (h2:binE .and .u8 (b.getD 0 0) 64=0) (h3:bx0 b<bP/\sqV (side1V (bx0 b))) :
  read1V b=fin1V b (bx0 b) (if binE .and .u8 (b.getD 0 0) 32=0 then lesV (rtV (side1V (bx0 b))) else (-lesV (rtV (side1V (bx0 b))))%bP) 0:=by
 unfold read1V;rw [if_neg (fun hc=>hc h),if_pos h2,if_pos h3]
theorem set_len48 {b:List Int} (h:b.length=48) (c:Int):(b.set 0 c).length<=48:=by rw [List.length_set,h];exact Nat.le_refl _
def tRead1:Tree:=(.lett 1 (.int .i64) (.llen (.var 0))
(.lett 2 .bit (.cmp .neq (.var 1) (.lit 48))
(.split 2
(.ret [.lit 0,.lit 0,.lit 0,.lit 4])
(.lett 3 (.int .i64) (.llen (.var 0))
(.lett 4 .bit (.cmp .leq (.lit 0) (.lit 0))
(.lett 5 .bit (.cmp .lss (.lit 0) (.var 3))
(.nz (.var 4)
(.nz (.var 5)
(.lett 6 (.int .u8) (.lget (.var 0) (.lit 0))
(.lett 7 (.int .u8) (.bin .and .u8 (.var 6) (.lit 64))
(.lett 8 .bit (.cmp .eql (.var 7) (.lit 0))
(.split 8
 (.lett 9 (.int .i64) (.llen (.var 0))
 (.lett 10 .bit (.cmp .lss (.lit 0) (.var 9))
 (.nz (.var 10)
 (.lett 11 (.int .i64) (.llen (.lit 0))
 (.lett 12 .bit (.cmp .lss (.var 11) (.lit 2147483648))
 (.lett 13 (.int .i64) (.llen (.var 0))
 (.lett 14 .bit (.cmp .lss (.var 13) (.lit 2147483648))
 (.nz (.var 12)
 (.nz (.var 14)
 (.lett 15 (.lst (.int .u8)) (.lcat (.lit 0) (.var 0))
 (.lett 16 (.int .i64) (.llen (.var 15))
 (.lett 17 .bit (.cmp .leq (.lit 0) (.lit 0))
 (.lett 18 .bit (.cmp .lss (.lit 0) (.var 16))
 (.nz (.var 17)
 (.nz (.var 18)
 (.lett 19 (.int .u8) (.lget (.var 15) (.lit 0))
 (.lett 20 (.int .u8) (.bin .and .u8 (.var 19) (.lit 31))
 (.lett 21 (.int .i64) (.llen (.var 15))
 (.lett 22 .bit (.cmp .leq (.lit 0) (.lit 0))
 (.lett 23 .bit (.cmp .lss (.lit 0) (.var 21))
 (.nz (.var 22)
 (.nz (.var 23)
 (.lett 24 (.lst (.int .u8)) (.lput (.var 15) (.lit 0) (.var 20))
 (.req 0 [.var 24]
 (.lett 25 .num (.app 0 0 [.var 24])
 (.lett 26 (.int .i64) (.app 0 1 [.var 24])
 (.req 1 [.var 25]
 (.lett 27 .num (.app 1 0 [.var 25])
 (.lett 28 .num (.app 1 1 [.var 25])
 (.lett 29 .bit (.app 1 2 [.var 25])
 (.lett 30 .bit (.app 1 3 [.var 25])
 (.lett 79 .bit (.not (.var 30))
 (.split 79
 (.ret [.lit 0,.lit 0,.lit 0,.lit 4])
 (.req 3 []
 (.lett 223 .num (.app 3 0 [])
 (.req 2 [.var 25,.var 223]
 (.lett 271 (.int .i64) (.app 2 0 [.var 25,.var 223])
 (.lett 319 .bit (.cmp .geq (.var 271) (.lit 0))
 (.split 319
 (.ret [.lit 0,.lit 0,.lit 0,.lit 4])
 (.lett 415 (.int .i64) (.llen (.var 0))
 (.lett 416 .bit (.cmp .leq (.lit 0) (.lit 0))
 (.lett 417 .bit (.cmp .lss (.lit 0) (.var 415))
 (.nz (.var 416)
 (.nz (.var 417)
 (.lett 418 (.int .u8) (.lget (.var 0) (.lit 0))
 (.lett 419 (.int .u8) (.bin .and .u8 (.var 418) (.lit 32))
 (.lett 420 .bit (.cmp .neq (.var 419) (.lit 0))
 (.split 420
 (.req 4 [.var 27,.var 28,.var 29]
 (.lett 421 .num (.app 4 0 [.var 27,.var 28,.var 29])
 (.lett 422 .num (.app 4 1 [.var 27,.var 28,.var 29])
 (.lett 423 .bit (.app 4 2 [.var 27,.var 28,.var 29])
 (.lett 424 (.int .i64) (.app 4 3 [.var 27,.var 28,.var 29])
 (.req 5 [.var 421,.var 422,.var 423]
 (.lett 425 (.lst (.int .u8)) (.app 5 0 [.var 421,.var 422,.var 423])
 (.lett 426 (.int .i64) (.app 5 1 [.var 421,.var 422,.var 423])
 (.lett 427 .bit (.cmp .neq (.var 426) (.lit 0))
 (.split 427
 (.ret [.lit 0,.lit 0,.lit 0,.lit 4])
 (.lett 428 .bit (.lsame (.var 425) (.var 0))
 (.lett 429 .bit (.not (.var 428))
 (.split 429
 (.ret [.lit 0,.lit 0,.lit 0,.lit 4])
 (.req 6 [.var 421,.var 422,.var 423]
 (.lett 430 .bit (.app 6 0 [.var 421,.var 422,.var 423])
 (.lett 431 .bit (.not (.var 430))
 (.split 431
 (.ret [.lit 0,.lit 0,.lit 0,.lit 5])
 (.ret [.var 421,.var 422,.var 423,.lit 0]))))))))))))))))))
 (.req 5 [.var 27,.var 28,.var 29]
 (.lett 421 (.lst (.int .u8)) (.app 5 0 [.var 27,.var 28,.var 29])
 (.lett 422 (.int .i64) (.app 5 1 [.var 27,.var 28,.var 29])
 (.lett 423 .bit (.cmp .neq (.var 422) (.lit 0))
 (.split 423
 (.ret [.lit 0,.lit 0,.lit 0,.lit 4])
 (.lett 424 .bit (.lsame (.var 421) (.var 0))
 (.lett 425 .bit (.not (.var 424))
 (.split 425
 (.ret [.lit 0,.lit 0,.lit 0,.lit 4])
 (.req 6 [.var 27,.var 28,.var 29]
 (.lett 426 .bit (.app 6 0 [.var 27,.var 28,.var 29])
 (.lett 427 .bit (.not (.var 426))
 (.split 427
 (.ret [.lit 0,.lit 0,.lit 0,.lit 5])
 (.ret [.var 27,.var 28,.var 29,.lit 0])))))))))))))))))))))))))))))))))))))))))))))))))))))))))))))
 (.req 5 [.lit 0,.lit 0,.lit 1]
 (.lett 9 (.lst (.int .u8)) (.app 5 0 [.lit 0,.lit 0,.lit 1])
 (.lett 10 (.int .i64) (.app 5 1 [.lit 0,.lit 0,.lit 1])
 (.lett 11 .bit (.cmp .neq (.var 10) (.lit 0))
 (.split 11
 (.ret [.lit 0,.lit 0,.lit 0,.lit 4])
 (.lett 12 .bit (.lsame (.var 9) (.var 0))
 (.lett 13 .bit (.not (.var 12))
 (.split 13
 (.ret [.lit 0,.lit 0,.lit 0,.lit 4])
 (.req 6 [.lit 0,.lit 0,.lit 1]
 (.lett 14 .bit (.app 6 0 [.lit 0,.lit 0,.lit 1])
 (.lett 15 .bit (.not (.var 14))
 (.split 15
 (.ret [.lit 0,.lit 0,.lit 0,.lit 5])
 (.ret [.lit 0,.lit 0,.lit 1,.lit 0])))))))))))))))))))))))))
theorem law_read1 (te:TypeId) (f1 f2 f3 f4 f5 f6 f7 f:FuncId) (e:Nat->Int):tRead1.says [kWRead f1,kAt1 f2,kWCmp f3,kMBase f4,kNeg1 f5,kBytes1 te f6,kInG1 f7] ⟨fun ys=>ys=(kRead1 f).sem [e 0],[]⟩ e:=by
 obtain ⟨b,d0⟩:∃ b,dec (e 0)=b:=⟨_,rfl⟩
 show tRead1.says _ ⟨fun ys=>ys=read1V (dec (e 0)),[]⟩ e
 rw [d0]
 have len:∀ {v:Int},v=((dec (e 0)).length:Int)->v=(b.length:Int):=fun h=>by rw [h,d0]
 intro a1 _ a2 _
 have v1:=len a1
 have b2:=c_ne a2
 simp only [ev_var,ev_lit] at b2
 refine ⟨fun h=>?_,fun h=>?_⟩
 ·rw [read1V_len (by omega)];rfl
 have hn:b.length=48:=by omega
 have pos:∀ {v:Int},v=((dec (e 0)).length:Int)->0<v:=fun h=>by rw [len h,hn];decide
 clear b2 h v1 a1 a2
 intro a3 _ a4 _ a5 _
 refine ⟨bit_nz a4 (Int.le_refl _),lt_nz a5 (pos a3),fun a6 _ a7 _ a8 _=>?_⟩
 have v6:e 6=b.getD 0 0:=by rw [<- d0];exact a6
 have v7:e 7=binE .and .u8 (b.getD 0 0) 64:=by rw [<- v6];exact a7
 have b8:=c_eq a8
 simp only [ev_var,ev_lit] at b8
 rw [v7] at b8
 clear a3 a4 a5 a6 a7 a8 v7
 refine ⟨fun h=>?_,fun h=>?_⟩
 ·have h64:=b_yes b8 h
  clear b8 h
  intro a9 _ a10 _
  refine ⟨lt_nz a10 (pos a9),fun a11 _ a12 _ a13 _ a14 _=>?_⟩
  have v11:e 11=0:=by rw [show e 11=((dec 0).length:Int) from a11,dec_zero];rfl
  have v13:=len a13
  refine ⟨lt_nz a12 (by show e 11<2147483648;omega),lt_nz a14 (by show e 13<2147483648;omega),fun a15 _ a16 _ a17 _ a18 _=>?_⟩
  have d15:dec (e 15)=b:=by rw [show e 15=enc (dec 0++dec (e 0)) from a15,dec_enc,dec_zero,d0];rfl
  have v16:e 16=(b.length:Int):=by rw [<- d15];exact a16
  refine ⟨bit_nz a17 (Int.le_refl _),lt_nz a18 (by show 0<e 16;omega),fun a19 _ a20 _ a21 _ a22 _ a23 _=>?_⟩
  have v19:e 19=b.getD 0 0:=by rw [<- d15];exact a19
  have v20:e 20=binE .and .u8 (b.getD 0 0) 31:=by rw [<- v19];exact a20
  have v21:e 21=(b.length:Int):=by rw [<- d15];exact a21
  refine ⟨bit_nz a22 (Int.le_refl _),lt_nz a23 (by show 0<e 21;omega),fun a24 _=>⟨trivial,fun a25 _ a26 _=>?_⟩⟩
  have d24:dec (e 24)=b.set 0 (binE .and .u8 (b.getD 0 0) 31):=by rw [show e 24=enc ((dec (e 15)).set 0 (e 20)) from a24,dec_enc,d15,v20]
  have v25:e 25=bx0 b:=by
   rw [show e 25=(if (dec (e 24)).length<=48 then [readV (dec (e 24)),0] else [0,3]:List Int).getD 0 0 from a25,d24,if_pos (set_len48 hn _)];rfl
  clear a9 a10 a11 a12 a13 a14 a15 a16 a17 a18 a19 a20 a21 a22 a23 a24 a25 a26 v11 v13 d15 v16 v19 v20 v21 d24
  refine ⟨trivial,fun a27 _ a28 _ a29 _ a30 _ a79 _=>?_⟩
  have v27:e 27=bx0 b:=by rw [<- v25];exact a27
  have v28:e 28=(rootV (side1V (bx0 b))).getD 0 0:=by rw [<- v25];exact a28
  have v29:e 29=0:=a29
  have v30:e 30=bj (sqV (side1V (bx0 b))):=by rw [<- v25];exact a30
  have b79:=c_not a79
  simp only [ev_var] at b79
  clear a27 a28 a29 a30 a79
  refine ⟨fun h=>?_,fun h=>?_⟩
  ·rw [read1V_n hn h64 (fun hc=>bj_z v30 (b_yes b79 h) hc.2)];rfl
  have hsq:=bj_nz v30 (b_no b79 h)
  have v28:e 28=lesV (rtV (side1V (bx0 b))):=by rw [v28];unfold rootV;rw [if_pos hsq];rfl
  clear b79 h v30
  refine ⟨trivial,fun a223 _=>⟨trivial,fun a271 _ a319 _=>?_⟩⟩
  have v223:e 223=bP:=a223
  have v271:e 271<0↔e 25<e 223:=cmpV_lt a271
  rw [v25,v223] at v271
  have b319:=c_ge a319
  simp only [ev_var,ev_lit] at b319
  refine ⟨fun h=>?_,fun h=>?_⟩
  ·have:¬ bx0 b<bP:=by rw [<- v271];omega
   rw [read1V_n hn h64 (fun hc=>this hc.1)];rfl
  have hlt:bx0 b<bP:=by rw [<- v271];omega
  rw [read1V_p hn h64 ⟨hlt,hsq⟩]
  have hon:=on_les hlt hsq
  clear a223 a271 a319 v223 v271 b319 h
  intro a415 _ a416 _ a417 _
  refine ⟨bit_nz a416 (Int.le_refl _),lt_nz a417 (pos a415),fun a418 _ a419 _ a420 _=>?_⟩
  have v418:e 418=b.getD 0 0:=by rw [<- d0];exact a418
  have v419:e 419=binE .and .u8 (b.getD 0 0) 32:=by rw [<- v418];exact a419
  have b420:=c_ne a420
  simp only [ev_var,ev_lit] at b420
  rw [v419] at b420
  refine ⟨fun h=>?_,fun h=>?_⟩
  ·have h32:¬ binE .and .u8 (b.getD 0 0) 32=0:=by
    rcases b420 with ⟨_,h2⟩ | ⟨h1,_⟩
    ·exact h2
    ·exact absurd h1 h
   rw [if_neg h32]
   refine ⟨trivial,fun a421 _ a422 _ a423 _ a424 _=>?_⟩
   have hnv:=negV_t hon
   have v421:e 421=bx0 b:=by rw [show e 421=(negV (e 27) (e 28) (e 29)).getD 0 0 from a421,v27,v28,v29,hnv];rfl
   have v422:e 422=(-lesV (rtV (side1V (bx0 b))))%bP:=by rw [show e 422=(negV (e 27) (e 28) (e 29)).getD 1 0 from a422,v27,v28,v29,hnv];rfl
   have v423:e 423=0:=by rw [show e 423=(negV (e 27) (e 28) (e 29)).getD 2 0 from a423,v27,v28,v29,hnv];rfl
   have h5:=tailP_says (T:=[kWRead f1,kAt1 f2,kWCmp f3,kMBase f4,kNeg1 f5,kBytes1 te f6,kInG1 f7]) (f1:=f6) (f2:=f7) (e:=e) rfl rfl 425 (.var 421) (.var 422) (.var 423) d0 (by show onV (e 421) (e 422) (e 423);rw [v421,v422,v423];exact on_neg hon)
   rw [show (A.var 421).ev e=_ from v421,show (A.var 422).ev e=_ from v422,show (A.var 423).ev e=_ from v423] at h5
   exact h5
  ·have h32:binE .and .u8 (b.getD 0 0) 32=0:=by
    rcases b420 with ⟨h1,_⟩ | ⟨_,h2⟩
    ·omega
    ·exact h2
   rw [if_pos h32]
   have h5:=tailP_says (T:=[kWRead f1,kAt1 f2,kWCmp f3,kMBase f4,kNeg1 f5,kBytes1 te f6,kInG1 f7]) (f1:=f6) (f2:=f7) (e:=e) rfl rfl 421 (.var 27) (.var 28) (.var 29) d0 (by show onV (e 27) (e 28) (e 29);rw [v27,v28,v29];exact hon)
   rw [show (A.var 27).ev e=_ from v27,show (A.var 28).ev e=_ from v28,show (A.var 29).ev e=_ from v29] at h5
   exact h5
 ·rw [read1V_z hn (b_no b8 h)]
  exact tailP_says (T:=[kWRead f1,kAt1 f2,kWCmp f3,kMBase f4,kNeg1 f5,kBytes1 te f6,kInG1 f7]) (f1:=f6) (f2:=f7) rfl rfl 9 (.lit 0) (.lit 0) (.lit 1) d0 on_zero
def prP (p:Int):Prop:=p=786251∨p=1152921504606846223
theorem pr_ok {p:Int} (h:prP p):pOk p:=by rcases h with rfl | rfl <;> exact ⟨by decide,by decide⟩
theorem dvd_md {p a b:Int}:a%p=b%p↔p∣a-b:=by
 constructor
 ·intro h;exact Int.dvd_of_emod_eq_zero (Int.emod_eq_emod_iff_emod_sub_eq_zero.1 h)
 ·intro h;exact Int.emod_eq_emod_iff_emod_sub_eq_zero.2 (Int.emod_eq_zero_of_dvd h)
theorem md2 (x p:Int):x%p%p=x%p:=Int.emod_emod_of_dvd _ (Int.dvd_refl _)
theorem right_md (p x:Int):rightP p x=(x*x*x+x)%p:=by
 unfold rightP
 have h1:x*x%p*x%p%p=x*x*x%p:=(md2 _ _).trans (mdE_mul (md2 (x*x) p) rfl)
 exact mdE_add h1 rfl
def onL (p:Int) (a:Pt):Prop:=onP p a.x a.y a.z/\(0<=a.x/\0<=a.y)/\(a.z=0∨a.z=1)
theorem onL.lt {p:Int} (hp:0<p) {a:Pt} (h:onL p a):a.lt p:=by
 have:=h.1
 unfold onP at this
 have h2:=h.2.1
 split at this
 ·exact ⟨⟨h2.1,this.1⟩,h2.2,this.2.1⟩
 ·exact ⟨⟨h2.1,by omega⟩,h2.2,by omega⟩
theorem onL.eq {p:Int} {a:Pt} (h:onL p a) (hz:a.z=0):p∣a.y*a.y-(a.x*a.x*a.x+a.x):=by
 have:=h.1
 unfold onP at this
 rw [if_pos hz,right_md] at this
 exact dvd_md.1 this.2.2
theorem bi_1 {p:Prop} [Decidable p] (h:p):bi p=1:=if_pos h
theorem cn_1 {v:Int} {p:Prop} (h:(v=1/\p)∨(v=0/\¬ p)) (hp:p):v=1:=h.elim (·.1) fun x=>absurd hp x.2
theorem fermat_int {p:Nat} (hp:Np.isP p) {a:Int} (h0:0<a) (h1:a<p):a*(a^((p:Int)-2).toNat%p)%p=1:=by
 obtain ⟨x,rfl⟩:=Int.eq_ofNat_of_zero_le (Int.le_of_lt h0)
 have h2:=hp.1
 have hx:¬ p∣x:=fun h=>by have:=Nat.le_of_dvd (by omega) h;omega
 have hf:=Np.fermat hp hx
 rw [show ((p:Int)-2).toNat=p-2 by omega]
 have e:x*(x^(p-2)%p)%p=1:=by rw [Nat.mul_mod_mod,<- Nat.pow_succ',show (p-2).succ=p-1 by omega];exact hf
 have:((x*(x^(p-2)%p)%p:Nat):Int)=1:=by rw [e];rfl
 rw [<- this,Int.natCast_emod,Int.natCast_mul,Int.natCast_emod,Int.natCast_pow]
abbrev iKey:Sh:=.agg [.int .i64,.num,.num,.bool,.int .u64,.int .u64,.bool]
def pL (s:Int):Int:=if s=1 then 786251 else 1152921504606846223
def kKeyL (f:FuncId):K:={fn:=f,ext:=false,ins:=[iKey],outs:=[oB],pre:=fun | [s,_,_,_,_,_,_]=>s=1∨s=2 | _=>False,sem:=fun | [s,px,py,pz,x,y,z]=>[bi ((px=0/\py=0/\pz=0)/\inP (pL s) (rOf s) x y z)] | _=>[] }
def kNever (f:FuncId) (ins:List Sh) (outs:List Oh):K:={fn:=f,ext:=false,ins:=ins,outs:=outs,pre:=fun _=>False,sem:=fun _=>[] }
theorem ok_never (P:Program) (f:FuncId) (ins:List Sh) (outs:List Oh):(kNever f ins outs).ok P:=fun _ _ _ _ hpre=>hpre.elim
def kAwake (f:FuncId):K:={fn:=f,ext:=false,ins:=[],outs:=[oB],pre:=fun _=>True,sem:=fun _=>[1] }
theorem c_p1 {e:Nat->Int} {v:Int} {i j k:Nat} (h:v=(D.eqs [((.limb i 0),(.lit 0)),((.limb i 1),(.lit 0)),((.limb i 2),(.lit 0)),((.limb i 3),(.lit 0)),((.limb i 4),(.lit 0)),((.limb i 5),(.lit 0)),((.limb j 0),(.lit 0)),((.limb j 1),(.lit 0)),((.limb j 2),(.lit 0)),((.limb j 3),(.lit 0)),((.limb j 4),(.lit 0)),((.limb j 5),(.lit 0)),((.var k),(.lit 0))]).ev [] e)
  (hi:0<=e i/\e i<N384) (hj:0<=e j/\e j<N384):(v=1/\e i=0/\e j=0/\e k=0)∨(v=0/\¬ (e i=0/\e j=0/\e k=0)):=by
 simp only [D.ev,List.all_cons,List.all_nil,ev_limb,ev_lit,ev_var,Bool.and_true,b2i_bi,Bool.and_eq_true,beq_iff_eq] at h
 by_cases hc:e i=0/\e j=0/\e k=0
 ·left;rw [hc.1,hc.2.1,hc.2.2] at h;simp [lim] at h;exact ⟨h,hc⟩
 ·right
  rw [if_neg (fun hh=>hc (by have:=lim_eq hi;have:=lim_eq hj;omega))] at h
  exact ⟨h,hc⟩
theorem bi_and1 {p q:Prop} [Decidable p] [Decidable q] (h:p):bi (p/\q)=bi q:=by
 unfold bi
 by_cases hq:q
 ·rw [if_pos ⟨h,hq⟩,if_pos hq]
 ·rw [if_neg (fun hh=>hq hh.2),if_neg hq]
theorem bi_and0 {p q:Prop} [Decidable p] [Decidable q] (h:¬ p):bi (p/\q)=0:=by
 unfold bi;rw [if_neg (fun hh=>h hh.1)]
def tKeyL:Tree:=(.lett 7 .bit (.cmp .eql (.var 0) (.lit 0))
(.split 7
(.lett 8 .bit (.eqs [((.var 4),(.lit 0)),((.var 5),(.lit 0)),((.var 6),(.lit 0))])
(.split 8
 (.req 1 [.var 1,.var 2,.var 3]
 (.lett 9 .bit (.app 1 0 [.var 1,.var 2,.var 3])
 (.ret [.var 9])))
 (.ret [.lit 0])))
(.lett 8 .bit (.cmp .eql (.var 0) (.lit 1))
(.split 8
 (.lett 9 .bit (.eqs [((.limb 1 0),(.lit 0)),((.limb 1 1),(.lit 0)),((.limb 1 2),(.lit 0)),((.limb 1 3),(.lit 0)),((.limb 1 4),(.lit 0)),((.limb 1 5),(.lit 0)),((.limb 2 0),(.lit 0)),((.limb 2 1),(.lit 0)),((.limb 2 2),(.lit 0)),((.limb 2 3),(.lit 0)),((.limb 2 4),(.lit 0)),((.limb 2 5),(.lit 0)),((.var 3),(.lit 0))])
 (.split 9
 (.lett 10 .bit (.cmp .eql (.var 0) (.lit 1))
 (.split 10
 (.req 0 [.lit 786251,.lit 65521,.lit 12,.lit 9723,.lit 164643,.lit 0,.var 4,.var 5,.var 6]
 (.lett 11 .bit (.app 0 0 [.lit 786251,.lit 65521,.lit 12,.lit 9723,.lit 164643,.lit 0,.var 4,.var 5,.var 6])
 (.ret [.var 11])))
 (.lett 11 .bit (.cmp .eql (.var 0) (.lit 2))
 (.split 11
 (.req 0 [.lit 1152921504606846223,.lit 72057594037927889,.lit 16,.lit 613740293506734924,.lit 666621259561003659,.lit 0,.var 4,.var 5,.var 6]
 (.lett 12 .bit (.app 0 0 [.lit 1152921504606846223,.lit 72057594037927889,.lit 16,.lit 613740293506734924,.lit 666621259561003659,.lit 0,.var 4,.var 5,.var 6])
 (.ret [.var 12])))
 (.ret [.lit 0])))))
 (.ret [.lit 0])))
 (.lett 9 .bit (.cmp .eql (.var 0) (.lit 2))
 (.split 9
 (.lett 10 .bit (.eqs [((.limb 1 0),(.lit 0)),((.limb 1 1),(.lit 0)),((.limb 1 2),(.lit 0)),((.limb 1 3),(.lit 0)),((.limb 1 4),(.lit 0)),((.limb 1 5),(.lit 0)),((.limb 2 0),(.lit 0)),((.limb 2 1),(.lit 0)),((.limb 2 2),(.lit 0)),((.limb 2 3),(.lit 0)),((.limb 2 4),(.lit 0)),((.limb 2 5),(.lit 0)),((.var 3),(.lit 0))])
 (.split 10
 (.lett 11 .bit (.cmp .eql (.var 0) (.lit 1))
 (.split 11
 (.req 0 [.lit 786251,.lit 65521,.lit 12,.lit 9723,.lit 164643,.lit 0,.var 4,.var 5,.var 6]
 (.lett 12 .bit (.app 0 0 [.lit 786251,.lit 65521,.lit 12,.lit 9723,.lit 164643,.lit 0,.var 4,.var 5,.var 6])
 (.ret [.var 12])))
 (.lett 12 .bit (.cmp .eql (.var 0) (.lit 2))
 (.split 12
 (.req 0 [.lit 1152921504606846223,.lit 72057594037927889,.lit 16,.lit 613740293506734924,.lit 666621259561003659,.lit 0,.var 4,.var 5,.var 6]
 (.lett 13 .bit (.app 0 0 [.lit 1152921504606846223,.lit 72057594037927889,.lit 16,.lit 613740293506734924,.lit 666621259561003659,.lit 0,.var 4,.var 5,.var 6])
 (.ret [.var 13])))
 (.ret [.lit 0])))))
 (.ret [.lit 0])))
 (.ret [.lit 0])))))))
theorem law_keyL (f1 f2 f:FuncId) (i2:List Sh) (o2:List Oh) (e:Nat->Int) (hk:kkHas [.int .i64,.num,.num,.bit,.int .u64,.int .u64,.bit] [e 0,e 1,e 2,e 3,e 4,e 5,e 6]) (hp:(kKeyL f).pre [e 0,e 1,e 2,e 3,e 4,e 5,e 6]):tKeyL.says [kLIn f1,kNever f2 i2 o2] ⟨fun ys=>ys=(kKeyL f).sem [e 0,e 1,e 2,e 3,e 4,e 5,e 6],[]⟩ e:=by
 have hp:e 0=1∨e 0=2:=hp
 obtain ⟨_,u1,u2,_⟩:=hk
 simp only [KK.has] at u1 u2
 have ok1:pOk 786251:=⟨by decide,by decide⟩
 have ok2:pOk 1152921504606846223:=⟨by decide,by decide⟩
 simp only [tKeyL,kLIn,kNever,kKeyL,Tree.says,List.getElem?_cons_zero,List.getElem?_cons_succ,List.map,ev_lit,ev_var,ev_limb,D.ev,List.getD_cons_zero,List.getD_cons_succ]
 intro a7 _
 have b7:=c_eq a7
 refine ⟨fun h=>by omega,fun h=>?_⟩
 intro a8 _
 have b8:=c_eq a8
 refine ⟨fun h8=>?_,fun h8=>?_⟩
 ·have e0:e 0=1:=by omega
  intro a9 _
  have b9:=c_p1 a9 u1 u2
  refine ⟨fun h9=>?_,fun h9=>?_⟩
  ·rw [bi_and1 (by omega)]
   intro a10 _
   have b10:=c_eq a10
   refine ⟨fun h10=>⟨ok1,fun a11 _=>?_⟩,fun h10=>by omega⟩
   rw [a11,e0];rfl
  ·rw [bi_and0 (by omega)]
 ·have e0:e 0=2:=by omega
  intro a9 _
  have b9:=c_eq a9
  refine ⟨fun h9=>?_,fun h9=>by omega⟩
  intro a10 _
  have b10:=c_p1 a10 u1 u2
  refine ⟨fun h10=>?_,fun h10=>?_⟩
  ·rw [bi_and1 (by omega)]
   intro a11 _
   have b11:=c_eq a11
   refine ⟨fun h11=>by omega,fun h11=>?_⟩
   intro a12 _
   have b12:=c_eq a12
   refine ⟨fun h12=>⟨ok2,fun a13 _=>?_⟩,fun h12=>by omega⟩
   rw [a13,e0];rfl
  ·rw [bi_and0 (by omega)]
theorem gen_in:inP 786251 65521 9723 164643 0:=by decide +kernel
theorem gen_in':inP (pL 1) (rOf 1) 9723 164643 0:=by
 rw [show pL 1=786251 from rfl,show rOf 1=65521 from rfl];exact gen_in
theorem key_one:[bi (((0:Int)=0/\(0:Int)=0/\(0:Int)=0)/\inP (pL 1) (rOf 1) 9723 164643 0)].getD 0 0=1:=by
 rw [List.getD_cons_zero]
 exact bi_1 ⟨⟨rfl,rfl,rfl⟩,gen_in'⟩
theorem inv_two:(kSInv 0).sem [1,2]=[32761,0]:=by
 obtain ⟨q1,q2⟩:=invM_eq (n:=65521) (a:=2) (y:=32761) (by decide) (by decide)
 simp only [kSInv]
 rw [if_pos (show isS 1/\(2:Int)<rOf 1 by decide),show rOf 1=65521 from rfl,q1,if_pos q2]
def tAwake:Tree:=(.req 0 [.lit 1]
(.lett 0 .num (.app 0 0 [.lit 1])
(.lett 1 (.int .i64) (.app 0 1 [.lit 1])
(.req 4 [.lit 65520]
(.lett 2 .num (.app 4 0 [.lit 65520])
(.req 4 [.lit 2]
(.lett 3 .num (.app 4 0 [.lit 2])
(.req 1 [.lit 1,.var 2,.var 3]
(.lett 4 .num (.app 1 0 [.lit 1,.var 2,.var 3])
(.lett 5 (.int .i64) (.app 1 1 [.lit 1,.var 2,.var 3])
(.req 4 [.lit 2]
(.lett 6 .num (.app 4 0 [.lit 2])
(.req 2 [.lit 1,.var 6]
(.lett 7 .num (.app 2 0 [.lit 1,.var 6])
(.lett 8 (.int .i64) (.app 2 1 [.lit 1,.var 6])
(.req 4 [.lit 65521]
(.lett 57 .num (.app 4 0 [.lit 65521])
(.lett 105 .bit (.eqs [((.limb 0 0),(.limb 57 0)),((.limb 0 1),(.limb 57 1)),((.limb 0 2),(.limb 57 2)),((.limb 0 3),(.limb 57 3)),((.limb 0 4),(.limb 57 4)),((.limb 0 5),(.limb 57 5))])
(.split 105
(.lett 249 .bit (.cmp .eql (.var 1) (.lit 0))
(.split 249
 (.req 4 [.lit 1]
 (.lett 441 .num (.app 4 0 [.lit 1])
 (.lett 489 .bit (.eqs [((.limb 4 0),(.limb 441 0)),((.limb 4 1),(.limb 441 1)),((.limb 4 2),(.limb 441 2)),((.limb 4 3),(.limb 441 3)),((.limb 4 4),(.limb 441 4)),((.limb 4 5),(.limb 441 5))])
 (.split 489
 (.lett 681 .bit (.cmp .eql (.var 5) (.lit 0))
 (.split 681
 (.req 4 [.lit 32761]
 (.lett 873 .num (.app 4 0 [.lit 32761])
 (.lett 921 .bit (.eqs [((.limb 7 0),(.limb 873 0)),((.limb 7 1),(.limb 873 1)),((.limb 7 2),(.limb 873 2)),((.limb 7 3),(.limb 873 3)),((.limb 7 4),(.limb 873 4)),((.limb 7 5),(.limb 873 5))])
 (.split 921
 (.lett 1113 .bit (.cmp .eql (.var 8) (.lit 0))
 (.split 1113
 (.req 3 [.lit 1,.lit 0,.lit 0,.lit 0,.lit 9723,.lit 164643,.lit 0]
 (.lett 1305 .bit (.app 3 0 [.lit 1,.lit 0,.lit 0,.lit 0,.lit 9723,.lit 164643,.lit 0])
 (.split 1305
 (.ret [.lit 1])
 (.ret [.lit 0]))))
 (.ret [.lit 0])))
 (.ret [.lit 0])))))
 (.ret [.lit 0])))
 (.ret [.lit 0])))))
 (.ret [.lit 0])))
(.ret [.lit 0]))))))))))))))))))))
theorem law_awake (f1 f2 f3 f4 f5 f:FuncId) (e:Nat->Int):tAwake.says [kSOrder f1,kS2 f2 (·+ ·),kSInv f3,kKeyL f4,kOf f5] ⟨fun ys=>ys=[1],[]⟩ e:=by
 unfold tAwake
 refine ⟨trivial,fun a0 k0 a1 _=>⟨trivial,fun a2 _=>⟨trivial,fun a3 _=>⟨trivial,fun a4 k4 a5 _=>⟨trivial,fun a6 _=>⟨trivial,fun a7 k7 a8 _=>⟨trivial,fun a57 k57 a105 _=>?_⟩⟩⟩⟩⟩⟩⟩
 have v0:e 0=65521:=a0
 have v1:e 1=0:=a1
 have v2:e 2=65520:=a2
 have v3:e 3=2:=a3
 have s4:sem2 (·+ ·) [1,e 2,e 3]=[1,0]:=by rw [v2,v3];decide
 have v4:e 4=1:=by
  have:e 4=(sem2 (·+ ·) [1,e 2,e 3]).getD 0 0:=a4
  rw [this,s4];rfl
 have v5:e 5=0:=by
  have:e 5=(sem2 (·+ ·) [1,e 2,e 3]).getD 1 0:=a5
  rw [this,s4];rfl
 have v6:e 6=2:=a6
 have s7:(kSInv f3).sem [1,e 6]=[32761,0]:=by rw [v6];exact inv_two
 have v7:e 7=32761:=by
  have:e 7=((kSInv f3).sem [1,e 6]).getD 0 0:=a7
  rw [this,s7];rfl
 have v8:e 8=0:=by
  have:e 8=((kSInv f3).sem [1,e 6]).getD 1 0:=a8
  rw [this,s7];rfl
 have v57:e 57=65521:=a57
 have w105:=cn_1 (c_num a105 k0 k57) (by rw [v0,v57])
 refine ⟨fun _=>?_,fun h=>by omega⟩
 intro a249 _
 have w249:=c_eq a249
 simp only [ev_var,ev_lit] at w249
 refine ⟨fun _=>?_,fun h=>by omega⟩
 refine ⟨trivial,fun a441 k441 a489 _=>?_⟩
 have v441:e 441=1:=a441
 have w489:=cn_1 (c_num a489 k4 k441) (by rw [v4,v441])
 refine ⟨fun _=>?_,fun h=>by omega⟩
 intro a681 _
 have w681:=c_eq a681
 simp only [ev_var,ev_lit] at w681
 refine ⟨fun _=>?_,fun h=>by omega⟩
 refine ⟨trivial,fun a873 k873 a921 _=>?_⟩
 have v873:e 873=32761:=a873
 have w921:=cn_1 (c_num a921 k7 k873) (by rw [v7,v873])
 refine ⟨fun _=>?_,fun h=>by omega⟩
 intro a1113 _
 have w1113:=c_eq a1113
 simp only [ev_var,ev_lit] at w1113
 refine ⟨fun _=>?_,fun h=>by omega⟩
 refine ⟨.inl rfl,fun a1305 _=>?_⟩
 have w1:e 1305=1:=a1305.trans key_one
 refine ⟨fun _=>rfl,fun h=>by omega⟩
def isL (s:Int):Prop:=s=1∨s=2
def cvL (s:Int):List Int:=if s=1 then [786251,65521,12,9723,164643,0,1] else if s=2 then [1152921504606846223,72057594037927889,16,613740293506734924,666621259561003659,0,1] else [0,0,0,0,0,0,0]
abbrev lsKey:List L:=[.int .i64,.num,.num,.bool,.int .u64,.int .u64,.bool]
def kLOf (f:FuncId):K:={fn:=f,ext:=false,ins:=[iI],outs:=[.agg [.int .u64,.int .u64,.int .u64,.int .u64,.int .u64,.bool],oB],pre:=fun _=>True,sem:=fun | [s]=>cvL s | _=>[] }
def tLOf:Tree:=(.lett 1 .bit (.cmp .eql (.var 0) (.lit 1))
(.split 1
(.ret [.lit 786251,.lit 65521,.lit 12,.lit 9723,.lit 164643,.lit 0,.lit 1])
(.lett 2 .bit (.cmp .eql (.var 0) (.lit 2))
(.split 2
 (.ret [.lit 1152921504606846223,.lit 72057594037927889,.lit 16,.lit 613740293506734924,.lit 666621259561003659,.lit 0,.lit 1])
 (.ret [.lit 0,.lit 0,.lit 0,.lit 0,.lit 0,.lit 0,.lit 0])))))
theorem law_lOf (f:FuncId) (e:Nat->Int):tLOf.says [] ⟨fun ys=>ys=(kLOf f).sem [e 0],[]⟩ e:=by
 show tLOf.says _ ⟨fun ys=>ys=cvL (e 0),[]⟩ e
 intro a1 _
 have b1:=c_eq a1
 refine ⟨fun h=>?_,fun h=>?_⟩
 ·show _=cvL (e 0)
  unfold cvL
  rw [if_pos (show e 0=1 from b_yes b1 h)];rfl
 ·intro a2 _
  have b2:=c_eq a2
  have n1:¬ e 0=1:=b_no b1 h
  refine ⟨fun h=>?_,fun h=>?_⟩
  ·show _=cvL (e 0)
   unfold cvL
   rw [if_neg n1,if_pos (show e 0=2 from b_yes b2 h)];rfl
  ·show _=cvL (e 0)
   unfold cvL
   rw [if_neg n1,if_neg (show ¬ e 0=2 from b_no b2 h)];rfl
theorem pL_ok (s:Int):pOk (pL s):=by
 unfold pL;split <;> exact ⟨by decide,by decide⟩
theorem cvL_t {s:Int} (h:isL s):cvL s=[pL s,rOf s,if s=1 then 12 else 16,if s=1 then 9723 else 613740293506734924,if s=1 then 164643 else 666621259561003659,0,1]:=by
 rcases h with rfl | rfl <;> rfl
theorem cvL_f {s:Int} (h:¬ isL s):cvL s=[0,0,0,0,0,0,0]:=by
 unfold cvL
 rw [if_neg (fun h1=>h (.inl h1)),if_neg (fun h1=>h (.inr h1))]
open Classical in
theorem isL_6 (s:Int):(cvL s).getD 6 0=bj (isL s):=by
 by_cases h:isL s
 ·rw [cvL_t h,bj_t h];rfl
 ·rw [cvL_f h,bj_f h];rfl
theorem bi_bj {p:Prop} [Decidable p]:bi p=bj p:=by
 by_cases h:p
 ·rw [bj_t h];exact if_pos h
 ·rw [bj_f h];exact if_neg h
noncomputable def kLIn2 (f:FuncId):K:={fn:=f,ext:=false,ins:=[iI,iPt],outs:=[oB],pre:=fun _=>True,sem:=fun | [s,x,y,z]=>[bj (isL s/\inP (pL s) (rOf s) x y z)] | _=>[] }
def tLIn2:Tree:=(.req 0 [.var 0]
(.lett 4 (.int .u64) (.app 0 0 [.var 0])
(.lett 5 (.int .u64) (.app 0 1 [.var 0])
(.lett 6 (.int .u64) (.app 0 2 [.var 0])
(.lett 7 (.int .u64) (.app 0 3 [.var 0])
(.lett 8 (.int .u64) (.app 0 4 [.var 0])
(.lett 9 .bit (.app 0 5 [.var 0])
(.lett 10 .bit (.app 0 6 [.var 0])
(.split 10
(.req 1 [.var 4,.var 5,.var 6,.var 7,.var 8,.var 9,.var 1,.var 2,.var 3]
(.lett 11 .bit (.app 1 0 [.var 4,.var 5,.var 6,.var 7,.var 8,.var 9,.var 1,.var 2,.var 3])
(.ret [.var 11])))
(.ret [.lit 0]))))))))))
theorem law_lIn2 (f1 f2 f:FuncId) (e:Nat->Int):tLIn2.says [kLOf f1,kLIn f2] ⟨fun ys=>ys=(kLIn2 f).sem [e 0,e 1,e 2,e 3],[]⟩ e:=by
 show tLIn2.says _ ⟨fun ys=>ys=[bj (isL (e 0)/\inP (pL (e 0)) (rOf (e 0)) (e 1) (e 2) (e 3))],[]⟩ e
 refine ⟨trivial,fun a4 _ a5 _ a6 _ a7 _ a8 _ a9 _ a10 _=>?_⟩
 have v10:e 10=bj (isL (e 0)):=(show e 10=(cvL (e 0)).getD 6 0 from a10).trans (isL_6 _)
 refine ⟨fun h=>?_,fun h=>?_⟩
 ·have hl:=bj_nz v10 h
  have v4:e 4=pL (e 0):=by rw [show e 4=(cvL (e 0)).getD 0 0 from a4,cvL_t hl];rfl
  have v5:e 5=rOf (e 0):=by rw [show e 5=(cvL (e 0)).getD 1 0 from a5,cvL_t hl];rfl
  refine ⟨(by show pOk (e 4);rw [v4];exact pL_ok _),fun a11 _=>?_⟩
  have v11:e 11=bi (inP (e 4) (e 5) (e 1) (e 2) (e 3)):=a11
  show [e 11]=_
  rw [v11,bi_bj,v4,v5]
  exact congrArg (fun x=>[x]) (bj_iff ⟨fun h=>⟨hl,h⟩,fun h=>h.2⟩)
 ·show [(0:Int)]=_
  rw [bj_f fun hh=>bj_z v10 h hh.1]
def keyOk (s px py pz x y z:Int):Prop:=(s=0/\(x=0/\y=0/\z=0)/\inG px py pz)∨(isL s/\(px=0/\py=0/\pz=0)/\inP (pL s) (rOf s) x y z)
noncomputable def kKeyChk (f:FuncId):K:={fn:=f,ext:=false,ins:=[.agg lsKey],outs:=[oB],pre:=fun _=>True,sem:=fun | [s,px,py,pz,x,y,z]=>[bj (keyOk s px py pz x y z)] | _=>[] }
theorem c_eqs {T:List K} {e:Nat->Int} {v:Int} {l:List (A×A)} (h:v=(D.eqs l).ev T e):(v=1/\∀ p∈l,p.1.ev e=p.2.ev e)∨(v=0/\¬ ∀ p∈l,p.1.ev e=p.2.ev e):=by
 have h:v=b2i (l.all fun p=>p.1.ev e==p.2.ev e):=h
 by_cases hc:∀ p∈l,p.1.ev e=p.2.ev e
 ·refine .inl ⟨?_,hc⟩
  rw [h,show (l.all fun p=>p.1.ev e==p.2.ev e)=true from List.all_eq_true.2 fun p hp=>beq_iff_eq.2 (hc p hp)];rfl
 ·refine .inr ⟨?_,hc⟩
  have:(l.all fun p=>p.1.ev e==p.2.ev e)=false:=by
   cases hb:(l.all fun p=>p.1.ev e==p.2.ev e) with
   | false=>rfl
   | true=>exact absurd (fun p hp=>beq_iff_eq.1 (List.all_eq_true.1 hb p hp)) hc
  rw [h,this];rfl
theorem c_l1 {T:List K} {e:Nat->Int} {v:Int} {i j k:Nat} (h:v=(D.eqs [(.var i,.lit 0),(.var j,.lit 0),(.var k,.lit 0)]).ev T e):(v=1/\(e i=0/\e j=0/\e k=0))∨(v=0/\¬ (e i=0/\e j=0/\e k=0)):=by
 have hi:(∀ p∈[(A.var i,A.lit 0),(.var j,.lit 0),(.var k,.lit 0)],p.1.ev e=p.2.ev e)↔(e i=0/\e j=0/\e k=0):=by
  constructor
  ·intro h
   exact ⟨h _ (List.mem_cons_self ..),h _ (List.mem_cons_of_mem _ (List.mem_cons_self ..)),h _ (List.mem_cons_of_mem _ (List.mem_cons_of_mem _ (List.mem_cons_self ..)))⟩
  ·rintro ⟨h1,h2,h3⟩ p hp
   simp only [List.mem_cons,List.not_mem_nil,or_false] at hp
   rcases hp with rfl | rfl | rfl
   ·exact h1
   ·exact h2
   ·exact h3
 rcases c_eqs h with ⟨h1,h2⟩ | ⟨h1,h2⟩
 ·exact .inl ⟨h1,hi.1 h2⟩
 ·exact .inr ⟨h1,fun hh=>h2 (hi.2 hh)⟩
def tKeyChk:Tree:=(.lett 7 .bit (.cmp .eql (.var 0) (.lit 0))
(.split 7
(.lett 8 .bit (.eqs [((.var 4),(.lit 0)),((.var 5),(.lit 0)),((.var 6),(.lit 0))])
(.split 8
 (.req 0 [.var 1,.var 2,.var 3]
 (.lett 9 .bit (.app 0 0 [.var 1,.var 2,.var 3])
 (.ret [.var 9])))
 (.ret [.lit 0])))
(.lett 8 .bit (.cmp .eql (.var 0) (.lit 1))
(.split 8
 (.lett 9 .bit (.eqs [((.limb 1 0),(.lit 0)),((.limb 1 1),(.lit 0)),((.limb 1 2),(.lit 0)),((.limb 1 3),(.lit 0)),((.limb 1 4),(.lit 0)),((.limb 1 5),(.lit 0)),((.limb 2 0),(.lit 0)),((.limb 2 1),(.lit 0)),((.limb 2 2),(.lit 0)),((.limb 2 3),(.lit 0)),((.limb 2 4),(.lit 0)),((.limb 2 5),(.lit 0)),((.var 3),(.lit 0))])
 (.split 9
 (.req 1 [.var 0,.var 4,.var 5,.var 6]
 (.lett 10 .bit (.app 1 0 [.var 0,.var 4,.var 5,.var 6])
 (.ret [.var 10])))
 (.ret [.lit 0])))
 (.lett 9 .bit (.cmp .eql (.var 0) (.lit 2))
 (.split 9
 (.lett 10 .bit (.eqs [((.limb 1 0),(.lit 0)),((.limb 1 1),(.lit 0)),((.limb 1 2),(.lit 0)),((.limb 1 3),(.lit 0)),((.limb 1 4),(.lit 0)),((.limb 1 5),(.lit 0)),((.limb 2 0),(.lit 0)),((.limb 2 1),(.lit 0)),((.limb 2 2),(.lit 0)),((.limb 2 3),(.lit 0)),((.limb 2 4),(.lit 0)),((.limb 2 5),(.lit 0)),((.var 3),(.lit 0))])
 (.split 10
 (.req 1 [.var 0,.var 4,.var 5,.var 6]
 (.lett 11 .bit (.app 1 0 [.var 0,.var 4,.var 5,.var 6])
 (.ret [.var 11])))
 (.ret [.lit 0])))
 (.ret [.lit 0])))))))
theorem law_keyChk (f1 f2 f:FuncId) (e:Nat->Int) (hk:kkHas [.int .i64,.num,.num,.bit,.int .u64,.int .u64,.bit] [e 0,e 1,e 2,e 3,e 4,e 5,e 6]):tKeyChk.says [kInG1 f1,kLIn2 f2] ⟨fun ys=>ys=(kKeyChk f).sem [e 0,e 1,e 2,e 3,e 4,e 5,e 6],[]⟩ e:=by
 obtain ⟨_,u1,u2,_⟩:=hk
 simp only [KK.has] at u1 u2
 show tKeyChk.says _ ⟨fun ys=>ys=[bj (keyOk (e 0) (e 1) (e 2) (e 3) (e 4) (e 5) (e 6))],[]⟩ e
 intro a7 _
 have b7:=c_eq a7
 simp only [ev_var,ev_lit] at b7
 refine ⟨fun h7=>?_,fun h7=>?_⟩
 ·have e0:e 0=0:=by omega
  intro a8 _
  have b8:=c_l1 a8
  refine ⟨fun h8=>⟨trivial,fun a9 _=>?_⟩,fun h8=>?_⟩
  ·have v9:e 9=bj (inG (e 1) (e 2) (e 3)):=a9
   show [e 9]=_
   rw [v9]
   exact congrArg (fun x=>[x]) (bj_iff ⟨fun h=>.inl ⟨e0,b_yes b8 h8,h⟩,fun h=>by
    rcases h with h | h
    ·exact h.2.2
    ·rcases h.1 with h1 | h1 <;> (rw [e0] at h1;exact absurd h1 (by decide))⟩)
  ·show [(0:Int)]=_
   rw [bj_f]
   intro h
   rcases h with h | h
   ·exact b_no b8 h8 h.2.1
   ·rcases h.1 with h1 | h1 <;> (rw [e0] at h1;exact absurd h1 (by decide))
 ·have n0:¬ e 0=0:=by omega
  intro a8 _
  have b8:=c_eq a8
  simp only [ev_var,ev_lit] at b8
  have key:∀ (v w:Int),isL (e 0)->v=bj (isL (e 0)/\inP (pL (e 0)) (rOf (e 0)) (e 4) (e 5) (e 6))->(e 1=0/\e 2=0/\e 3=0)->[v]=[bj (keyOk (e 0) (e 1) (e 2) (e 3) (e 4) (e 5) (e 6))]:=fun v w hl hv hz=>by
   rw [hv]
   exact congrArg (fun x=>[x]) (bj_iff ⟨fun h=>.inr ⟨hl,hz,h.2⟩,fun h=>by
    rcases h with h | h
    ·exact absurd h.1 n0
    ·exact ⟨hl,h.2.2⟩⟩)
  have none:¬ (e 1=0/\e 2=0/\e 3=0)->[(0:Int)]=[bj (keyOk (e 0) (e 1) (e 2) (e 3) (e 4) (e 5) (e 6))]:=fun hz=>by
   rw [bj_f]
   intro h
   rcases h with h | h
   ·exact n0 h.1
   ·exact hz h.2.1
  refine ⟨fun h8=>?_,fun h8=>?_⟩
  ·intro a9 _
   have b9:=c_p1 a9 u1 u2
   refine ⟨fun h9=>⟨trivial,fun a10 _=>key _ 0 (.inl (by omega)) a10 (by omega)⟩,fun h9=>none (by omega)⟩
  ·intro a9 _
   have b9:=c_eq a9
   simp only [ev_var,ev_lit] at b9
   refine ⟨fun h9=>?_,fun h9=>?_⟩
   ·intro a10 _
    have b10:=c_p1 a10 u1 u2
    refine ⟨fun h10=>⟨trivial,fun a11 _=>key _ 0 (.inr (by omega)) a11 (by omega)⟩,fun h10=>none (by omega)⟩
   ·show [(0:Int)]=_
    rw [bj_f]
    intro h
    rcases h with h | h
    ·exact n0 h.1
    ·rcases h.1 with h1 | h1 <;> omega
def by8 (x:Int):List Int:=[wr .u8 (binE .shr .u64 x 56),wr .u8 (binE .shr .u64 x 48),wr .u8 (binE .shr .u64 x 40),wr .u8 (binE .shr .u64 x 32),wr .u8 (binE .shr .u64 x 24),wr .u8 (binE .shr .u64 x 16),wr .u8 (binE .shr .u64 x 8),wr .u8 (binE .shr .u64 x 0)]
def bytesL (x y z:Int):List Int:=(if z=0 then 0 else 1)::(by8 x++by8 y)
def rdF (b:List Int) (o:Nat):Nat->Int
 | 0=>0
 | n+1=>binE .or .u64 (binE .shl .u64 (rdF b o n) 8) (b.getD (o+n) 0)
def readLV (p r:Int) (b:List Int):List Int :=
 if b.length≠17 then [0,0,0,4]
 else if b.getD 0 0 > 1∨¬ onP p (rdF b 1 8) (rdF b 9 8) (bi (b.getD 0 0=1)) then [0,0,0,4]
 else if inP p r (rdF b 1 8) (rdF b 9 8) (bi (b.getD 0 0=1)) then [rdF b 1 8,rdF b 9 8,bi (b.getD 0 0=1),0] else [0,0,0,5]
def kWritten (f:FuncId):K:={fn:=f,ext:=false,ins:=[iPt],outs:=[.agg (List.replicate 17 (.int .u8))],pre:=fun _=>True,sem:=fun | [x,y,z]=>bytesL x y z | _=>[] }
noncomputable def kLRead (f:FuncId):K:={fn:=f,ext:=false,ins:=[iI,.lst (.int .u8)],outs:=[.agg [.int .u64,.int .u64,.bool],oI],pre:=fun | [s,_]=>isL s | _=>False,sem:=fun | [s,l]=>readLV (pL s) (rOf s) (dec l) | _=>[] }
theorem pL_pr {s:Int} (h:isL s):prP (pL s):=by rcases h with rfl | rfl;exact .inl rfl;exact .inr rfl
theorem bi_eq {T:List K} {e:Nat->Int} {v:Int} {a b:A} (h:v=(D.cmp .eql a b).ev T e):v=bi (a.ev e=b.ev e):=by
 have h:v=b2i (a.ev e==b.ev e):=h
 rw [h];unfold bi b2i
 by_cases hc:a.ev e=b.ev e
 ·rw [if_pos hc];simp [hc]
 ·rw [if_neg hc];simp [hc]
def wrT (z:Int):Tree:=(.lett 435 (.int .u64) (.bin .shr .u64 (.var 0) (.lit 56)) (.lett 483 (.int .u8) (.conv .u8 (.var 435)) (.lett 771 (.int .u64) (.bin .shr .u64 (.var 1) (.lit 56)) (.lett 819 (.int .u8) (.conv .u8 (.var 771)) (.lett 1491 (.int .u64) (.bin .shr .u64 (.var 0) (.lit 48)) (.lett 1539 (.int .u8) (.conv .u8 (.var 1491)) (.lett 1827 (.int .u64) (.bin .shr .u64 (.var 1) (.lit 48)) (.lett 1875 (.int .u8) (.conv .u8 (.var 1827)) (.lett 2547 (.int .u64) (.bin .shr .u64 (.var 0) (.lit 40)) (.lett 2595 (.int .u8) (.conv .u8 (.var 2547)) (.lett 2883 (.int .u64) (.bin .shr .u64 (.var 1) (.lit 40)) (.lett 2931 (.int .u8) (.conv .u8 (.var 2883)) (.lett 3603 (.int .u64) (.bin .shr .u64 (.var 0) (.lit 32)) (.lett 3651 (.int .u8) (.conv .u8 (.var 3603)) (.lett 3939 (.int .u64) (.bin .shr .u64 (.var 1) (.lit 32)) (.lett 3987 (.int .u8) (.conv .u8 (.var 3939)) (.lett 4659 (.int .u64) (.bin .shr .u64 (.var 0) (.lit 24)) (.lett 4707 (.int .u8) (.conv .u8 (.var 4659)) (.lett 4995 (.int .u64) (.bin .shr .u64 (.var 1) (.lit 24)) (.lett 5043 (.int .u8) (.conv .u8 (.var 4995)) (.lett 5715 (.int .u64) (.bin .shr .u64 (.var 0) (.lit 16)) (.lett 5763 (.int .u8) (.conv .u8 (.var 5715)) (.lett 6051 (.int .u64) (.bin .shr .u64 (.var 1) (.lit 16)) (.lett 6099 (.int .u8) (.conv .u8 (.var 6051)) (.lett 6771 (.int .u64) (.bin .shr .u64 (.var 0) (.lit 8)) (.lett 6819 (.int .u8) (.conv .u8 (.var 6771)) (.lett 7107 (.int .u64) (.bin .shr .u64 (.var 1) (.lit 8)) (.lett 7155 (.int .u8) (.conv .u8 (.var 7107)) (.lett 7827 (.int .u64) (.bin .shr .u64 (.var 0) (.lit 0)) (.lett 7875 (.int .u8) (.conv .u8 (.var 7827)) (.lett 8163 (.int .u64) (.bin .shr .u64 (.var 1) (.lit 0)) (.lett 8211 (.int .u8) (.conv .u8 (.var 8163)) (.ret [.lit z,.var 483,.var 1539,.var 2595,.var 3651,.var 4707,.var 5763,.var 6819,.var 7875,.var 819,.var 1875,.var 2931,.var 3987,.var 5043,.var 6099,.var 7155,.var 8211])))))))))))))))))))))))))))))))))
theorem wrT_says (z:Int) (e:Nat->Int):(wrT z).says [] ⟨fun ys=>ys=z::(by8 (e 0)++by8 (e 1)),[]⟩ e:=by
 intro a435 _ a483 _ a771 _ a819 _ a1491 _ a1539 _ a1827 _ a1875 _ a2547 _ a2595 _ a2883 _ a2931 _ a3603 _ a3651 _ a3939 _ a3987 _ a4659 _ a4707 _ a4995 _ a5043 _ a5715 _ a5763 _ a6051 _ a6099 _ a6771 _ a6819 _ a7107 _ a7155 _ a7827 _ a7875 _ a8163 _ a8211 _
 show [z,e 483,e 1539,e 2595,e 3651,e 4707,e 5763,e 6819,e 7875,e 819,e 1875,e 2931,e 3987,e 5043,e 6099,e 7155,e 8211]=_
 rw [show e 483=wr .u8 (binE .shr .u64 (e 0) 56) by rw [show e 483=wr .u8 (e 435) from a483];exact congrArg (wr .u8) a435,show e 819=wr .u8 (binE .shr .u64 (e 1) 56) by rw [show e 819=wr .u8 (e 771) from a819];exact congrArg (wr .u8) a771,show e 1539=wr .u8 (binE .shr .u64 (e 0) 48) by rw [show e 1539=wr .u8 (e 1491) from a1539];exact congrArg (wr .u8) a1491,show e 1875=wr .u8 (binE .shr .u64 (e 1) 48) by rw [show e 1875=wr .u8 (e 1827) from a1875];exact congrArg (wr .u8) a1827,show e 2595=wr .u8 (binE .shr .u64 (e 0) 40) by rw [show e 2595=wr .u8 (e 2547) from a2595];exact congrArg (wr .u8) a2547,show e 2931=wr .u8 (binE .shr .u64 (e 1) 40) by rw [show e 2931=wr .u8 (e 2883) from a2931];exact congrArg (wr .u8) a2883,show e 3651=wr .u8 (binE .shr .u64 (e 0) 32) by rw [show e 3651=wr .u8 (e 3603) from a3651];exact congrArg (wr .u8) a3603,show e 3987=wr .u8 (binE .shr .u64 (e 1) 32) by rw [show e 3987=wr .u8 (e 3939) from a3987];exact congrArg (wr .u8) a3939,show e 4707=wr .u8 (binE .shr .u64 (e 0) 24) by rw [show e 4707=wr .u8 (e 4659) from a4707];exact congrArg (wr .u8) a4659,show e 5043=wr .u8 (binE .shr .u64 (e 1) 24) by rw [show e 5043=wr .u8 (e 4995) from a5043];exact congrArg (wr .u8) a4995,show e 5763=wr .u8 (binE .shr .u64 (e 0) 16) by rw [show e 5763=wr .u8 (e 5715) from a5763];exact congrArg (wr .u8) a5715,show e 6099=wr .u8 (binE .shr .u64 (e 1) 16) by rw [show e 6099=wr .u8 (e 6051) from a6099];exact congrArg (wr .u8) a6051,show e 6819=wr .u8 (binE .shr .u64 (e 0) 8) by rw [show e 6819=wr .u8 (e 6771) from a6819];exact congrArg (wr .u8) a6771,show e 7155=wr .u8 (binE .shr .u64 (e 1) 8) by rw [show e 7155=wr .u8 (e 7107) from a7155];exact congrArg (wr .u8) a7107,show e 7875=wr .u8 (binE .shr .u64 (e 0) 0) by rw [show e 7875=wr .u8 (e 7827) from a7875];exact congrArg (wr .u8) a7827,show e 8211=wr .u8 (binE .shr .u64 (e 1) 0) by rw [show e 8211=wr .u8 (e 8163) from a8211];exact congrArg (wr .u8) a8163]
 rfl
def tWritten:Tree:=.split 2 (wrT 1) (wrT 0)
theorem law_written (f:FuncId) (e:Nat->Int):tWritten.says [] ⟨fun ys=>ys=(kWritten f).sem [e 0,e 1,e 2],[]⟩ e:=by
 show tWritten.says [] ⟨fun ys=>ys=bytesL (e 0) (e 1) (e 2),[]⟩ e
 unfold bytesL
 refine ⟨fun h=>?_,fun h=>?_⟩
 ·rw [if_neg h];exact wrT_says 1 e
 ·rw [if_pos h];exact wrT_says 0 e
def tLRead:Tree:=(.req 0 [.var 0]
(.lett 2 (.int .u64) (.app 0 0 [.var 0])
(.lett 3 (.int .u64) (.app 0 1 [.var 0])
(.lett 4 (.int .u64) (.app 0 2 [.var 0])
(.lett 5 (.int .u64) (.app 0 3 [.var 0])
(.lett 6 (.int .u64) (.app 0 4 [.var 0])
(.lett 7 .bit (.app 0 5 [.var 0])
(.lett 8 .bit (.app 0 6 [.var 0])
(.lett 9 .bit (.not (.var 8))
(.split 9
(.ret [.lit 0,.lit 0,.lit 0,.lit 2])
(.lett 10 (.int .i64) (.llen (.var 1))
(.lett 11 .bit (.cmp .neq (.var 10) (.lit 17))
(.split 11
 (.ret [.lit 0,.lit 0,.lit 0,.lit 4])
 (.lett 12 (.int .i64) (.llen (.var 1))
 (.lett 13 .bit (.cmp .leq (.lit 0) (.lit 0))
 (.lett 14 .bit (.cmp .lss (.lit 0) (.var 12))
 (.nz (.var 13)
 (.nz (.var 14)
 (.lett 15 (.int .u8) (.lget (.var 1) (.lit 0))
 (.lett 16 .bit (.cmp .eql (.var 15) (.lit 1))
 (.loop [.lit 0,.lit 0,.lit 0,.var 16] [(.int .i64),(.int .u64),(.int .u64),.bit] 17
 (.lett 21 .bit (.cmp .lss (.var 17) (.lit 8))
 (.split 21
 (.lett 118 (.int .u64) (.bin .shl .u64 (.var 18) (.lit 8))
 (.lett 262 (.int .i64) (.bin .add .i64 (.lit 1) (.var 17))
 (.lett 310 (.int .i64) (.llen (.var 1))
 (.lett 311 .bit (.cmp .leq (.lit 0) (.var 262))
 (.lett 312 .bit (.cmp .lss (.var 262) (.var 310))
 (.nz (.var 311)
 (.nz (.var 312)
 (.lett 358 (.int .u8) (.lget (.var 1) (.var 262))
 (.lett 454 (.int .u64) (.bin .or .u64 (.var 118) (.var 358))
 (.lett 598 (.int .u64) (.bin .shl .u64 (.var 19) (.lit 8))
 (.lett 742 (.int .i64) (.bin .add .i64 (.lit 9) (.var 17))
 (.lett 790 (.int .i64) (.llen (.var 1))
 (.lett 791 .bit (.cmp .leq (.lit 0) (.var 742))
 (.lett 792 .bit (.cmp .lss (.var 742) (.var 790))
 (.nz (.var 791)
 (.nz (.var 792)
 (.lett 838 (.int .u8) (.lget (.var 1) (.var 742))
 (.lett 934 (.int .u64) (.bin .or .u64 (.var 598) (.var 838))
 (.lett 1174 (.int .i64) (.bin .add .i64 (.var 17) (.lit 1))
 (.back 0 [.var 1174,.var 454,.var 934,.var 20]))))))))))))))))))))
 (.lett 22 (.int .i64) (.llen (.var 1))
 (.lett 23 .bit (.cmp .leq (.lit 0) (.lit 0))
 (.lett 24 .bit (.cmp .lss (.lit 0) (.var 22))
 (.nz (.var 23)
 (.nz (.var 24)
 (.lett 25 (.int .u8) (.lget (.var 1) (.lit 0))
 (.lett 26 .bit (.cmp .gtr (.var 25) (.lit 1))
 (.split 26
 (.ret [.lit 0,.lit 0,.lit 0,.lit 4])
 (.req 1 [.var 2,.var 3,.var 4,.var 5,.var 6,.var 7,.var 18,.var 19,.var 20]
 (.lett 27 .bit (.app 1 0 [.var 2,.var 3,.var 4,.var 5,.var 6,.var 7,.var 18,.var 19,.var 20])
 (.lett 28 .bit (.not (.var 27))
 (.split 28
 (.ret [.lit 0,.lit 0,.lit 0,.lit 4])
 (.req 2 [.var 2,.var 3,.var 4,.var 5,.var 6,.var 7,.var 18,.var 19,.var 20]
 (.lett 29 .bit (.app 2 0 [.var 2,.var 3,.var 4,.var 5,.var 6,.var 7,.var 18,.var 19,.var 20])
 (.lett 30 .bit (.not (.var 29))
 (.split 30
 (.ret [.lit 0,.lit 0,.lit 0,.lit 5])
 (.ret [.var 18,.var 19,.var 20,.lit 0]))))))))))))))))))))))))))))))))))))))))
theorem law_lRead (f1 f2 f3 f:FuncId) (e:Nat->Int) (hp:(kLRead f).pre [e 0,e 1]):tLRead.says [kLOf f1,kLOn f2,kLIn f3] ⟨fun ys=>ys=(kLRead f).sem [e 0,e 1],[]⟩ e:=by
 have hl:isL (e 0):=hp
 have hpr:=pL_pr hl
 obtain ⟨b,d1⟩:∃ b,dec (e 1)=b:=⟨_,rfl⟩
 show tLRead.says _ ⟨fun ys=>ys=readLV (pL (e 0)) (rOf (e 0)) (dec (e 1)),[]⟩ e
 rw [d1]
 have len:∀ {v:Int},v=((dec (e 1)).length:Int)->v=(b.length:Int):=fun h=>by rw [h,d1]
 refine ⟨trivial,fun a2 _ a3 _ a4 _ a5 _ a6 _ a7 _ a8 _ a9 _=>?_⟩
 have v2:e 2=pL (e 0):=by rw [show e 2=(cvL (e 0)).getD 0 0 from a2,cvL_t hl];rfl
 have v3:e 3=rOf (e 0):=by rw [show e 3=(cvL (e 0)).getD 1 0 from a3,cvL_t hl];rfl
 have v8:e 8=1:=by rw [show e 8=(cvL (e 0)).getD 6 0 from a8,cvL_t hl];rfl
 have b9:=c_not a9
 simp only [ev_var] at b9
 refine ⟨fun h=>by omega,fun _=>?_⟩
 clear a2 a3 a4 a5 a6 a7 a8 a9 b9 v8
 generalize pL (e 0)=p at *
 generalize rOf (e 0)=r at *
 intro a10 _ a11 _
 have v10:=len a10
 have b11:=c_ne a11
 simp only [ev_var,ev_lit] at b11
 refine ⟨fun h=>?_,fun h=>?_⟩
 ·unfold readLV;rw [if_pos (show b.length≠17 by omega)];rfl
 have hn:b.length=17:=by omega
 have pos:∀ {v:Int},v=((dec (e 1)).length:Int)->v=17:=fun h=>by rw [len h,hn];rfl
 clear b11 h v10 a10 a11
 intro a12 _ a13 _ a14 _
 refine ⟨bit_nz a13 (Int.le_refl _),lt_nz a14 (by show (0:Int)<e 12;rw [pos a12];decide),fun a15 _ a16 _=>?_⟩
 have v15:e 15=b.getD 0 0:=by rw [<- d1];exact a15
 have v16:e 16=bi (b.getD 0 0=1):=by rw [<- v15];exact bi_eq a16
 clear a12 a13 a14 a15 a16 v15
 obtain ⟨z0,hz0⟩:∃ z,z=bi (b.getD 0 0=1):=⟨_,rfl⟩
 rw [<- hz0] at v16
 refine ⟨fun | [i,x,y,z]=>(0<=i/\i<=8)/\x=rdF b 1 i.toNat/\y=rdF b 9 i.toNat/\z=z0 | _=>False,fun | [i,_,_,_]=>(8-i).toNat | _=>0,⟨⟨Int.le_refl _,(show (0:Int)<=8 by decide)⟩,rfl,rfl,v16⟩,fun e' he hkk hI=>?_⟩
 obtain ⟨⟨i0,i1⟩,qx,qy,qz⟩:(0<=e' 17/\e' 17<=8)/\e' 18=rdF b 1 (e' 17).toNat/\e' 19=rdF b 9 (e' 17).toNat/\e' 20=z0:=hI
 have d1:=(congrArg dec (he 1 (by decide))).trans d1
 have pos:∀ {v:Int},v=((dec (e' 1)).length:Int)->v=17:=fun h=>by rw [h,d1,hn];rfl
 have qp:=(he 2 (by decide)).trans v2
 have qr:=(he 3 (by decide)).trans v3
 clear he hkk v16 len
 intro a21 _
 have b21:=c_lt a21
 simp only [ev_var,ev_lit] at b21
 refine ⟨fun h=>?_,fun h=>?_⟩
 ·have c21:e' 17<8:=b_yes b21 h
  intro a118 _ a262 _ a310 _ a311 _ a312 _
  have v262:=add_ (a:=1) (b:=e' 17) a262 (by omega)
  refine ⟨bit_nz a311 (by show 0<=e' 262;omega),lt_nz a312 (by show e' 262<e' 310;rw [pos a310];omega),fun a358 _ a454 _ a598 _ a742 _ a790 _ a791 _ a792 _=>?_⟩
  have v742:=add_ (a:=9) (b:=e' 17) a742 (by omega)
  refine ⟨bit_nz a791 (by show 0<=e' 742;omega),lt_nz a792 (by show e' 742<e' 790;rw [pos a790];omega),fun a838 _ a934 _ a1174 _=>?_⟩
  have v1174:=add_ (a:=e' 17) (b:=1) a1174 (by omega)
  show ((0<=e' 1174/\e' 1174<=8)/\e' 454=rdF b 1 (e' 1174).toNat/\e' 934=rdF b 9 (e' 1174).toNat/\e' 20=z0)/\(8-e' 1174).toNat<(8-e' 17).toNat
  refine ⟨⟨by omega,?_,?_,qz⟩,by omega⟩
  ·rw [show (e' 1174).toNat=(e' 17).toNat+1 by omega,show e' 454=binE .or .u64 (e' 118) (e' 358) from a454,show e' 118=binE .shl .u64 (e' 18) 8 from a118,show e' 358=(dec (e' 1)).getD (e' 262).toNat 0 from a358,d1,qx,show (e' 262).toNat=1+(e' 17).toNat by omega];rfl
  ·rw [show (e' 1174).toNat=(e' 17).toNat+1 by omega,show e' 934=binE .or .u64 (e' 598) (e' 838) from a934,show e' 598=binE .shl .u64 (e' 19) 8 from a598,show e' 838=(dec (e' 1)).getD (e' 742).toNat 0 from a838,d1,qy,show (e' 742).toNat=9+(e' 17).toNat by omega];rfl
 ·have c21:e' 17=8:=by have:=b_no b21 h;omega
  rw [c21] at qx qy
  intro a22 _ a23 _ a24 _
  refine ⟨bit_nz a23 (Int.le_refl _),lt_nz a24 (by show (0:Int)<e' 22;rw [pos a22];decide),fun a25 _ a26 _=>?_⟩
  have v25:e' 25=b.getD 0 0:=by rw [<- d1];exact a25
  have b26:=c_gt a26
  simp only [ev_var,ev_lit] at b26
  rw [v25] at b26
  unfold readLV
  rw [if_neg (show ¬ b.length≠17 from fun hc=>hc hn),<- hz0]
  refine ⟨fun h=>?_,fun h=>?_⟩
  ·rw [if_pos (.inl (b_yes b26 h))];rfl
  have h1:=b_no b26 h
  refine ⟨by show pOk (e' 2);rw [qp];exact pr_ok hpr,fun a27 _ a28 _=>?_⟩
  have v27:e' 27=bi (onP p (rdF b 1 8) (rdF b 9 8) z0):=by rw [<- qp,show rdF b 1 8=e' 18 from qx.symm,show rdF b 9 8=e' 19 from qy.symm,<- qz];exact a27
  rw [bi_bj] at v27
  have b28:=c_not a28
  simp only [ev_var] at b28
  refine ⟨fun h=>?_,fun h=>?_⟩
  ·rw [if_pos (.inr (bj_z v27 (b_yes b28 h)))];rfl
  have hon:=bj_nz v27 (b_no b28 h)
  rw [if_neg (fun hc=>hc.elim h1 (fun k=>k hon))]
  refine ⟨by show pOk (e' 2);rw [qp];exact pr_ok hpr,fun a29 _ a30 _=>?_⟩
  have v29:e' 29=bi (inP p r (rdF b 1 8) (rdF b 9 8) z0):=by rw [<- qp,<- qr,show rdF b 1 8=e' 18 from qx.symm,show rdF b 9 8=e' 19 from qy.symm,<- qz];exact a29
  rw [bi_bj] at v29
  have b30:=c_not a30
  simp only [ev_var] at b30
  refine ⟨fun h=>?_,fun h=>?_⟩
  ·rw [if_neg (bj_z v29 (b_yes b30 h))];rfl
  ·rw [if_pos (bj_nz v29 (b_no b30 h)),show rdF b 1 8=e' 18 from qx.symm,show rdF b 9 8=e' 19 from qy.symm,<- qz];rfl
def invB (x:Int):Int:=x^(bP-2).toNat
theorem nP_bP:((Np.nP:Nat):Int)=bP:=rfl
theorem invB_ok {x:Int} (h:¬ x%bP=0):(x*invB x)%bP=1:=by
 have h1:=md_lt (x:=x) bP_pos
 have hf:=fermat_int Np.p_base (a:=x%bP) (by omega) (by rw [nP_bP];exact h1.2)
 rw [nP_bP] at hf
 rw [<- hf]
 unfold invB
 generalize (bP-2).toNat=n
 exact (mdE_mul (md_self x) ((md_self _).trans (mdE_pow (md_self x) n))).symm
theorem one_md:(1:Int)%bP=1:=by decide
theorem mulB_z {x y:Int} (h:(x*y)%bP=0) (hx:¬ x%bP=0):y%bP=0:=by
 have hi:=invB_ok hx
 have h1:(y*(x*invB x))%bP=y%bP:=by
  have:=mdE_mul (p:=bP) (a:=y) (A:=y) rfl (hi.trans one_md.symm)
  rw [Int.mul_one] at this;exact this
 rw [<- h1,show y*(x*invB x)=x*y*invB x by rw [<- Int.mul_assoc,Int.mul_comm y x]]
 exact md0_mul _ h
theorem sub_nz {x y:Int} (h0:0<=x/\x<bP) (h1:0<=y/\y<bP) (h:¬ x=y):¬ (y-x)%bP=0:=by unfold bP at *;omega
theorem opp_of {y y':Int} (h0:0<=y/\y<bP) (h1:0<=y'/\y'<bP) (h:(y'+y)%bP=0):y=(-y')%bP:=by unfold bP at *;omega
section
variable {x y x' y':Int}
end
end Go.Sx
