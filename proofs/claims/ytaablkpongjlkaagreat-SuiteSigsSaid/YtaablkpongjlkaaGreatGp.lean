/- Part Gp of the proof. -/
import Derived.Test.YtaablkpongjlkaaGreatGo
import Derived.Test.YtaablkpongjlkaaGreatGl
import Derived.Test.YtaablkpongjlkaaGreatGm
set_option linter.unusedVariables false
set_option linter.unusedSimpArgs false
namespace Go.Sx
open Go Go.RowKit
set_option maxRecDepth 100000
open Classical in
noncomputable def fin2V (l:List Int) (a b c d z:Int):List Int:=if bytes2V a b c d z=l then (if inG2 a b c d z then [a,b,c,d,z,0] else [0,0,0,0,0,5]) else [0,0,0,0,0,4]
def bi0 (b:List Int):Int:=readV ((b.set 0 (binE .and .u8 (b.getD 0 0) 31)).take 48)
def br0 (b:List Int):Int:=readV (b.drop 48)
noncomputable def sd0 (b:List Int):E2:=side2 (br0 b,bi0 b)
open Classical in
noncomputable def read2V (b:List Int):List Int :=
 if b.length≠96 then [0,0,0,0,0,4]
 else if binE .and .u8 (b.getD 0 0) 64=0 then
  if (br0 b<bP/\bi0 b<bP)/\isSq2 (sd0 b) then
   if binE .and .u8 (b.getD 0 0) 32=0 then fin2V b (br0 b) (bi0 b) (rt2 (sd0 b)).1 (rt2 (sd0 b)).2 0 else fin2V b (br0 b) (bi0 b) (ng2 (rt2 (sd0 b))).1 (ng2 (rt2 (sd0 b))).2 0
  else [0,0,0,0,0,4]
 else fin2V b 0 0 0 0 1
theorem read2V_len {b:List Int} (h:b.length≠96):read2V b=[0,0,0,0,0,4]:=if_pos h
theorem read2V_z {b:List Int} (h:b.length=96) (h2:¬ binE .and .u8 (b.getD 0 0) 64=0):read2V b=fin2V b 0 0 0 0 1:=by
 unfold read2V;rw [if_neg (fun hc=>hc h),if_neg h2]
theorem read2V_n {b:List Int} (h:b.length=96) (h2:binE .and .u8 (b.getD 0 0) 64=0) (h3:¬ ((br0 b<bP/\bi0 b<bP)/\isSq2 (sd0 b))):read2V b=[0,0,0,0,0,4]:=by
 unfold read2V;rw [if_neg (fun hc=>hc h),if_pos h2,if_neg h3]
theorem read2V_p {b:List Int} (h:b.length=96) (h2:binE .and .u8 (b.getD 0 0) 64=0) (h3:(br0 b<bP/\bi0 b<bP)/\isSq2 (sd0 b)):read2V b=if binE .and .u8 (b.getD 0 0) 32=0 then fin2V b (br0 b) (bi0 b) (rt2 (sd0 b)).1 (rt2 (sd0 b)).2 0 else fin2V b (br0 b) (bi0 b) (ng2 (rt2 (sd0 b))).1 (ng2 (rt2 (sd0 b))).2 0:=by
 unfold read2V;rw [if_neg (fun hc=>hc h),if_pos h2,if_pos h3]
noncomputable def kRead2 (f:FuncId):K:={fn:=f,ext:=false,ins:=[.lst (.int .u8)],outs:=[.agg lsQ2,oI],pre:=fun _=>True,sem:=fun | [l]=>read2V (dec l) | _=>[] }
theorem ng_sq (c:E2):S2 (R2.mul (ng2 c) (ng2 c)) (R2.mul c c):=by
 have h:S2 (ng2 c) (-c.1,-c.2):=⟨md_self _,md_self _⟩
 refine S2_trans (S2R_mul h h) (S2_eq (Prod.ext ?_ ?_))
 ·show -c.1 * -c.1 - -c.2 * -c.2=c.1*c.1-c.2*c.2;rw [Int.neg_mul_neg,Int.neg_mul_neg]
 ·show -c.1 * -c.2 + -c.2 * -c.1=c.1*c.2+c.2*c.1;rw [Int.neg_mul_neg,Int.neg_mul_neg]
theorem les2_sq (c:E2):S2 (R2.mul (les2 c) (les2 c)) (R2.mul c c):=by
 unfold les2;split
 ·exact ng_sq c
 ·exact S2_refl _
theorem rt2_sq {a:E2} (h:isSq2 a):S2 (R2.mul (rt2 a) (rt2 a)) a:=by
 obtain ⟨y,hy⟩:=h
 have h1:S2 (R2.mul (R2.md y) (R2.md y)) a:=S2_trans (S2R_mul (S2_md y) (S2_md y)) hy
 rw [rt2_of (md_cn y) h1]
 exact S2_trans (les2_sq _) h1
theorem on_rt2 {x y:Int} (hx:x<bP) (hy:y<bP) (h:isSq2 (side2 (x,y))):onV2 x y (rt2 (side2 (x,y))).1 (rt2 (side2 (x,y))).2 0 :=
 (onV2_0 rfl).2 ⟨⟨⟨hx,hy⟩,(rt2_cn _).1.2,(rt2_cn _).2.2⟩,md_of_S2 (rt2_sq h)⟩
theorem on_neg2 {a b c d:Int} (h:onV2 a b c d 0):onV2 a b (ng2 (c,d)).1 (ng2 (c,d)).2 0:=by
 obtain ⟨h1,h2⟩:=(onV2_0 rfl).1 h
 exact (onV2_0 rfl).2 ⟨⟨h1.1,(cn_ng _).1.2,(cn_ng _).2.2⟩,(md_of_S2 (ng_sq (c,d))).trans h2⟩
theorem on_zero2:onV2 0 0 0 0 1:=(onV2_1 (by decide)).2 ⟨⟨⟨bP_pos,bP_pos⟩,bP_pos,bP_pos⟩,⟨rfl,rfl⟩,rfl,rfl⟩
def tailP2 (n:Nat) (x y u v z:A):Tree:=.req 5 [x,y,u,v,z] (.lett n (.lst (.int .u8)) (.app 5 0 [x,y,u,v,z]) (.lett (n+1) (.int .i64) (.app 5 1 [x,y,u,v,z]) (.lett (n+2) .bit (.cmp .neq (.var (n+1)) (.lit 0)) (.split (n+2)
 (.ret [.lit 0,.lit 0,.lit 0,.lit 0,.lit 0,.lit 4])
 (.lett (n+3) .bit (.lsame (.var n) (.var 0)) (.lett (n+4) .bit (.not (.var (n+3))) (.split (n+4)
 (.ret [.lit 0,.lit 0,.lit 0,.lit 0,.lit 0,.lit 4])
 (.req 6 [x,y,u,v,z] (.lett (n+5) .bit (.app 6 0 [x,y,u,v,z]) (.lett (n+6) .bit (.not (.var (n+5))) (.split (n+6) (.ret [.lit 0,.lit 0,.lit 0,.lit 0,.lit 0,.lit 5]) (.ret [x,y,u,v,z,.lit 0]))))))))))))
theorem tailP2_says {T:List K} {e:Nat->Int} {te:TypeId} {f1 f2:FuncId} (h5:T[5]?=some (kBytes2 te f1)) (h6:T[6]?=some (kInG2 f2)) (n:Nat) (x y u v z:A) {b:List Int} (hb:dec (e 0)=b) (hon:onV2 (x.ev e) (y.ev e) (u.ev e) (v.ev e) (z.ev e)) :
  (tailP2 n x y u v z).says T ⟨fun ys=>ys=fin2V b (x.ev e) (y.ev e) (u.ev e) (v.ev e) (z.ev e),[]⟩ e:=by
 unfold fin2V
 refine ⟨by rw [h5];trivial,fun a0 _ a1 _ a2 _=>?_⟩
 have v0:e n=enc (bytes2V (x.ev e) (y.ev e) (u.ev e) (v.ev e) (z.ev e)):=by
  have:e n=(bytesR2 (x.ev e) (y.ev e) (u.ev e) (v.ev e) (z.ev e)).getD 0 0:=by
   have:=a0;simp only [D.ev,h5] at this;exact this
  rw [bytesR2_t hon] at this;exact this
 have v1:e (n+1)=0:=by
  have:e (n+1)=(bytesR2 (x.ev e) (y.ev e) (u.ev e) (v.ev e) (z.ev e)).getD 1 0:=by
   have:=a1;simp only [D.ev,h5] at this;exact this
  rw [bytesR2_t hon] at this;exact this
 have b2:=c_ne a2
 simp only [ev_var,ev_lit] at b2
 refine ⟨fun h=>by rcases b2 with ⟨_,h2⟩ | ⟨h2,_⟩;exact absurd v1 h2;exact absurd h2 h,fun _=>fun a3 _ a4 _=>?_⟩
 have b3:=c_same a3
 have b4:=c_not a4
 simp only [ev_var] at b3 b4
 rw [v0,dec_enc,hb] at b3
 refine ⟨fun h=>?_,fun h=>?_⟩
 ·have:¬ bytes2V (x.ev e) (y.ev e) (u.ev e) (v.ev e) (z.ev e)=b:=by
   have:=b_yes b4 h
   rcases b3 with ⟨h1,_⟩ | ⟨_,h2⟩
   ·omega
   ·exact h2
  rw [if_neg this];rfl
 ·have:bytes2V (x.ev e) (y.ev e) (u.ev e) (v.ev e) (z.ev e)=b:=by
   have:=b_no b4 h
   rcases b3 with ⟨_,h2⟩ | ⟨h1,_⟩
   ·exact h2
   ·exact absurd h1 this
  rw [if_pos this]
  refine ⟨by rw [h6];trivial,fun a5 _ a6 _=>?_⟩
  have v5:e (n+5)=bj (inG2 (x.ev e) (y.ev e) (u.ev e) (v.ev e) (z.ev e)):=by
   have:=a5;simp only [D.ev,h6] at this;exact this
  have b6:=c_not a6
  simp only [ev_var] at b6
  refine ⟨fun h=>?_,fun h=>?_⟩
  ·rw [if_neg (bj_z v5 (b_yes b6 h))];rfl
  ·rw [if_pos (bj_nz v5 (b_no b6 h))];rfl
def tRead2:Tree:=(.lett 1 (.int .i64) (.llen (.var 0))
(.lett 2 .bit (.cmp .neq (.var 1) (.lit 96))
(.split 2
(.ret [.lit 0,.lit 0,.lit 0,.lit 0,.lit 0,.lit 4])
(.lett 3 (.int .i64) (.llen (.var 0))
(.lett 4 .bit (.cmp .leq (.lit 0) (.lit 0))
(.lett 5 .bit (.cmp .lss (.lit 0) (.var 3))
(.nz (.var 4)
(.nz (.var 5)
(.lett 6 (.int .u8) (.lget (.var 0) (.lit 0))
(.lett 7 (.int .u8) (.bin .and .u8 (.var 6) (.lit 64))
(.lett 8 .bit (.cmp .eql (.var 7) (.lit 0))
(.split 8
 (.lett 9 (.int .i64) (.llen (.var 0))
 (.lett 10 .bit (.cmp .lss (.lit 0) (.var 9))
 (.nz (.var 10)
 (.lett 11 (.int .i64) (.llen (.lit 0))
 (.lett 12 .bit (.cmp .lss (.var 11) (.lit 2147483648))
 (.lett 13 (.int .i64) (.llen (.var 0))
 (.lett 14 .bit (.cmp .lss (.var 13) (.lit 2147483648))
 (.nz (.var 12)
 (.nz (.var 14)
 (.lett 15 (.lst (.int .u8)) (.lcat (.lit 0) (.var 0))
 (.lett 16 (.int .i64) (.llen (.var 15))
 (.lett 17 .bit (.cmp .leq (.lit 0) (.lit 0))
 (.lett 18 .bit (.cmp .lss (.lit 0) (.var 16))
 (.nz (.var 17)
 (.nz (.var 18)
 (.lett 19 (.int .u8) (.lget (.var 15) (.lit 0))
 (.lett 20 (.int .u8) (.bin .and .u8 (.var 19) (.lit 31))
 (.lett 21 (.int .i64) (.llen (.var 15))
 (.lett 22 .bit (.cmp .leq (.lit 0) (.lit 0))
 (.lett 23 .bit (.cmp .lss (.lit 0) (.var 21))
 (.nz (.var 22)
 (.nz (.var 23)
 (.lett 24 (.lst (.int .u8)) (.lput (.var 15) (.lit 0) (.var 20))
 (.lett 25 (.int .i64) (.llen (.var 15))
 (.lett 26 .bit (.cmp .leq (.lit 0) (.lit 0))
 (.lett 27 .bit (.cmp .leq (.lit 0) (.lit 48))
 (.lett 28 .bit (.cmp .leq (.lit 48) (.var 25))
 (.nz (.var 26)
 (.nz (.var 27)
 (.nz (.var 28)
 (.lett 29 (.lst (.int .u8)) (.lsub (.var 24) (.lit 0) (.lit 48))
 (.req 0 [.var 29]
 (.lett 30 .num (.app 0 0 [.var 29])
 (.lett 31 (.int .i64) (.app 0 1 [.var 29])
 (.lett 32 (.int .i64) (.llen (.var 0))
 (.lett 33 .bit (.cmp .leq (.lit 0) (.lit 48))
 (.lett 34 .bit (.cmp .leq (.lit 48) (.var 32))
 (.lett 35 .bit (.cmp .leq (.var 32) (.var 32))
 (.nz (.var 33)
 (.nz (.var 34)
 (.nz (.var 35)
 (.lett 36 (.lst (.int .u8)) (.lsub (.var 0) (.lit 48) (.var 32))
 (.req 0 [.var 36]
 (.lett 37 .num (.app 0 0 [.var 36])
 (.lett 38 (.int .i64) (.app 0 1 [.var 36])
 (.req 1 [.var 37,.var 30]
 (.lett 39 .num (.app 1 0 [.var 37,.var 30])
 (.lett 40 .num (.app 1 1 [.var 37,.var 30])
 (.lett 41 .num (.app 1 2 [.var 37,.var 30])
 (.lett 42 .num (.app 1 3 [.var 37,.var 30])
 (.lett 43 .bit (.app 1 4 [.var 37,.var 30])
 (.lett 44 .bit (.app 1 5 [.var 37,.var 30])
 (.lett 93 .bit (.not (.var 44))
 (.split 93
 (.ret [.lit 0,.lit 0,.lit 0,.lit 0,.lit 0,.lit 4])
 (.req 3 []
 (.lett 237 .num (.app 3 0 [])
 (.req 2 [.var 37,.var 237]
 (.lett 285 (.int .i64) (.app 2 0 [.var 37,.var 237])
 (.lett 333 .bit (.cmp .geq (.var 285) (.lit 0))
 (.split 333
 (.ret [.lit 0,.lit 0,.lit 0,.lit 0,.lit 0,.lit 4])
 (.req 3 []
 (.lett 525 .num (.app 3 0 [])
 (.req 2 [.var 30,.var 525]
 (.lett 573 (.int .i64) (.app 2 0 [.var 30,.var 525])
 (.lett 621 .bit (.cmp .geq (.var 573) (.lit 0))
 (.split 621
 (.ret [.lit 0,.lit 0,.lit 0,.lit 0,.lit 0,.lit 4])
 (.lett 717 (.int .i64) (.llen (.var 0))
 (.lett 718 .bit (.cmp .leq (.lit 0) (.lit 0))
 (.lett 719 .bit (.cmp .lss (.lit 0) (.var 717))
 (.nz (.var 718)
 (.nz (.var 719)
 (.lett 720 (.int .u8) (.lget (.var 0) (.lit 0))
 (.lett 721 (.int .u8) (.bin .and .u8 (.var 720) (.lit 32))
 (.lett 722 .bit (.cmp .neq (.var 721) (.lit 0))
 (.split 722
 (.req 4 [.var 39,.var 40,.var 41,.var 42,.var 43]
 (.lett 723 .num (.app 4 0 [.var 39,.var 40,.var 41,.var 42,.var 43])
 (.lett 724 .num (.app 4 1 [.var 39,.var 40,.var 41,.var 42,.var 43])
 (.lett 725 .num (.app 4 2 [.var 39,.var 40,.var 41,.var 42,.var 43])
 (.lett 726 .num (.app 4 3 [.var 39,.var 40,.var 41,.var 42,.var 43])
 (.lett 727 .bit (.app 4 4 [.var 39,.var 40,.var 41,.var 42,.var 43])
 (.lett 728 (.int .i64) (.app 4 5 [.var 39,.var 40,.var 41,.var 42,.var 43])
 (.req 5 [.var 723,.var 724,.var 725,.var 726,.var 727]
 (.lett 729 (.lst (.int .u8)) (.app 5 0 [.var 723,.var 724,.var 725,.var 726,.var 727])
 (.lett 730 (.int .i64) (.app 5 1 [.var 723,.var 724,.var 725,.var 726,.var 727])
 (.lett 731 .bit (.cmp .neq (.var 730) (.lit 0))
 (.split 731
 (.ret [.lit 0,.lit 0,.lit 0,.lit 0,.lit 0,.lit 4])
 (.lett 732 .bit (.lsame (.var 729) (.var 0))
 (.lett 733 .bit (.not (.var 732))
 (.split 733
 (.ret [.lit 0,.lit 0,.lit 0,.lit 0,.lit 0,.lit 4])
 (.req 6 [.var 723,.var 724,.var 725,.var 726,.var 727]
 (.lett 734 .bit (.app 6 0 [.var 723,.var 724,.var 725,.var 726,.var 727])
 (.lett 735 .bit (.not (.var 734))
 (.split 735
 (.ret [.lit 0,.lit 0,.lit 0,.lit 0,.lit 0,.lit 5])
 (.ret [.var 723,.var 724,.var 725,.var 726,.var 727,.lit 0]))))))))))))))))))))
 (.req 5 [.var 39,.var 40,.var 41,.var 42,.var 43]
 (.lett 723 (.lst (.int .u8)) (.app 5 0 [.var 39,.var 40,.var 41,.var 42,.var 43])
 (.lett 724 (.int .i64) (.app 5 1 [.var 39,.var 40,.var 41,.var 42,.var 43])
 (.lett 725 .bit (.cmp .neq (.var 724) (.lit 0))
 (.split 725
 (.ret [.lit 0,.lit 0,.lit 0,.lit 0,.lit 0,.lit 4])
 (.lett 726 .bit (.lsame (.var 723) (.var 0))
 (.lett 727 .bit (.not (.var 726))
 (.split 727
 (.ret [.lit 0,.lit 0,.lit 0,.lit 0,.lit 0,.lit 4])
 (.req 6 [.var 39,.var 40,.var 41,.var 42,.var 43]
 (.lett 728 .bit (.app 6 0 [.var 39,.var 40,.var 41,.var 42,.var 43])
 (.lett 729 .bit (.not (.var 728))
 (.split 729
 (.ret [.lit 0,.lit 0,.lit 0,.lit 0,.lit 0,.lit 5])
 (.ret [.var 39,.var 40,.var 41,.var 42,.var 43,.lit 0]))))))))))))))))))))))))))))))))))))))))))))))))))))))))))))))))))))))))))))))))))))))))
 (.req 5 [.lit 0,.lit 0,.lit 0,.lit 0,.lit 1]
 (.lett 9 (.lst (.int .u8)) (.app 5 0 [.lit 0,.lit 0,.lit 0,.lit 0,.lit 1])
 (.lett 10 (.int .i64) (.app 5 1 [.lit 0,.lit 0,.lit 0,.lit 0,.lit 1])
 (.lett 11 .bit (.cmp .neq (.var 10) (.lit 0))
 (.split 11
 (.ret [.lit 0,.lit 0,.lit 0,.lit 0,.lit 0,.lit 4])
 (.lett 12 .bit (.lsame (.var 9) (.var 0))
 (.lett 13 .bit (.not (.var 12))
 (.split 13
 (.ret [.lit 0,.lit 0,.lit 0,.lit 0,.lit 0,.lit 4])
 (.req 6 [.lit 0,.lit 0,.lit 0,.lit 0,.lit 1]
 (.lett 14 .bit (.app 6 0 [.lit 0,.lit 0,.lit 0,.lit 0,.lit 1])
 (.lett 15 .bit (.not (.var 14))
 (.split 15
 (.ret [.lit 0,.lit 0,.lit 0,.lit 0,.lit 0,.lit 5])
 (.ret [.lit 0,.lit 0,.lit 0,.lit 0,.lit 1,.lit 0])))))))))))))))))))))))))
theorem law_read2 (te:TypeId) (f1 f2 f3 f4 f5 f6 f7 f:FuncId) (e:Nat->Int):tRead2.says [kWRead f1,kAt2 f2,kWCmp f3,kMBase f4,kNeg2 f5,kBytes2 te f6,kInG2 f7] ⟨fun ys=>ys=(kRead2 f).sem [e 0],[]⟩ e:=by
 obtain ⟨b,d0⟩:∃ b,dec (e 0)=b:=⟨_,rfl⟩
 show tRead2.says _ ⟨fun ys=>ys=read2V (dec (e 0)),[]⟩ e
 rw [d0]
 have len:∀ {v:Int},v=((dec (e 0)).length:Int)->v=(b.length:Int):=fun h=>by rw [h,d0]
 intro a1 _ a2 _
 have v1:=len a1
 have b2:=c_ne a2
 simp only [ev_var,ev_lit] at b2
 refine ⟨fun h=>?_,fun h=>?_⟩
 ·rw [read2V_len (by omega)];rfl
 have hn:b.length=96:=by omega
 have pos:∀ {v:Int},v=((dec (e 0)).length:Int)->0<v:=fun h=>by rw [len h,hn];decide
 clear b2 h v1 a1 a2
 intro a3 _ a4 _ a5 _
 refine ⟨bit_nz a4 (Int.le_refl _),lt_nz a5 (pos a3),fun a6 _ a7 _ a8 _=>?_⟩
 have v6:e 6=b.getD 0 0:=by rw [<- d0];exact a6
 have v7:e 7=binE .and .u8 (b.getD 0 0) 64:=by rw [<- v6];exact a7
 have b8:=c_eq a8
 simp only [ev_var,ev_lit] at b8
 rw [v7] at b8
 clear a3 a4 a5 a6 a7 a8 v7
 refine ⟨fun h=>?_,fun h=>?_⟩
 ·have h64:=b_yes b8 h
  clear b8 h
  intro a9 _ a10 _
  refine ⟨lt_nz a10 (pos a9),fun a11 _ a12 _ a13 _ a14 _=>?_⟩
  have v11:e 11=0:=by rw [show e 11=((dec 0).length:Int) from a11,dec_zero];rfl
  have v13:=len a13
  refine ⟨lt_nz a12 (by show e 11<2147483648;omega),lt_nz a14 (by show e 13<2147483648;omega),fun a15 _ a16 _ a17 _ a18 _=>?_⟩
  have d15:dec (e 15)=b:=by rw [show e 15=enc (dec 0++dec (e 0)) from a15,dec_enc,dec_zero,d0];rfl
  have v16:e 16=(b.length:Int):=by rw [<- d15];exact a16
  refine ⟨bit_nz a17 (Int.le_refl _),lt_nz a18 (by show 0<e 16;omega),fun a19 _ a20 _ a21 _ a22 _ a23 _=>?_⟩
  have v19:e 19=b.getD 0 0:=by rw [<- d15];exact a19
  have v20:e 20=binE .and .u8 (b.getD 0 0) 31:=by rw [<- v19];exact a20
  have v21:e 21=(b.length:Int):=by rw [<- d15];exact a21
  refine ⟨bit_nz a22 (Int.le_refl _),lt_nz a23 (by show 0<e 21;omega),fun a24 _ a25 _ a26 _ a27 _ a28 _=>?_⟩
  have d24:dec (e 24)=b.set 0 (binE .and .u8 (b.getD 0 0) 31):=by rw [show e 24=enc ((dec (e 15)).set 0 (e 20)) from a24,dec_enc,d15,v20]
  have v25:e 25=(b.length:Int):=by rw [<- d15];exact a25
  refine ⟨bit_nz a26 (Int.le_refl _),bit_nz a27 (show (0:Int)<=48 by decide),le_nz a28 (by show 48<=e 25;omega),fun a29 _=>⟨trivial,fun a30 _ a31 _ a32 _ a33 _ a34 _ a35 _=>?_⟩⟩
  have d29:dec (e 29)=(b.set 0 (binE .and .u8 (b.getD 0 0) 31)).take 48:=by
   rw [show e 29=enc (((dec (e 24)).take 48).drop 0) from a29,dec_enc,List.drop_zero,d24]
  have v30:e 30=bi0 b:=by
   rw [show e 30=(if (dec (e 29)).length<=48 then [readV (dec (e 29)),0] else [0,3]:List Int).getD 0 0 from a30,d29,if_pos (List.length_take_le _ _)];rfl
  have v32:=len a32
  refine ⟨bit_nz a33 (show (0:Int)<=48 by decide),le_nz a34 (by show 48<=e 32;omega),le_nz a35 (Int.le_refl _),fun a36 _=>⟨trivial,fun a37 _ a38 _=>?_⟩⟩
  have d36:dec (e 36)=b.drop 48:=by
   rw [show e 36=enc (((dec (e 0)).take (e 32).toNat).drop 48) from a36,dec_enc,d0,v32,Int.toNat_natCast,List.take_of_length_le (Nat.le_refl _)]
  have v37:e 37=br0 b:=by
   rw [show e 37=(if (dec (e 36)).length<=48 then [readV (dec (e 36)),0] else [0,3]:List Int).getD 0 0 from a37,d36,if_pos (by rw [List.length_drop,hn];decide)];rfl
  clear a9 a10 a11 a12 a13 a14 a15 a16 a17 a18 a19 a20 a21 a22 a23 a24 a25 a26 a27 a28 a29 a30 a31 a32 a33 a34 a35 a36 a37 a38 v11 v13 d15 v16 v19 v20 v21 d24 v25 d29 v32 d36
  refine ⟨trivial,fun a39 _ a40 _ a41 _ a42 _ a43 _ a44 _ a93 _=>?_⟩
  have hs:side2 (e 37,e 30)=sd0 b:=by rw [v37,v30];rfl
  have v39:e 39=br0 b:=by rw [<- v37];exact a39
  have v40:e 40=bi0 b:=by rw [<- v30];exact a40
  have v41:e 41=(rt2 (sd0 b)).1:=by rw [<- hs];exact a41
  have v42:e 42=(rt2 (sd0 b)).2:=by rw [<- hs];exact a42
  have v43:e 43=0:=a43
  have v44:e 44=bj (isSq2 (sd0 b)):=by rw [<- hs];exact a44
  have b93:=c_not a93
  simp only [ev_var] at b93
  clear a39 a40 a41 a42 a43 a44 a93
  refine ⟨fun h=>?_,fun h=>?_⟩
  ·rw [read2V_n hn h64 (fun hc=>bj_z v44 (b_yes b93 h) hc.2)];rfl
  have hsq:=bj_nz v44 (b_no b93 h)
  clear b93 h v44
  refine ⟨trivial,fun a237 _=>⟨trivial,fun a285 _ a333 _=>?_⟩⟩
  have v237:e 237=bP:=a237
  have v285:e 285<0↔e 37<e 237:=cmpV_lt a285
  rw [v37,v237] at v285
  have b333:=c_ge a333
  simp only [ev_var,ev_lit] at b333
  refine ⟨fun h=>?_,fun h=>?_⟩
  ·have:¬ br0 b<bP:=by rw [<- v285];omega
   rw [read2V_n hn h64 (fun hc=>this hc.1.1)];rfl
  have hlt:br0 b<bP:=by rw [<- v285];omega
  refine ⟨trivial,fun a525 _=>⟨trivial,fun a573 _ a621 _=>?_⟩⟩
  have v525:e 525=bP:=a525
  have v573:e 573<0↔e 30<e 525:=cmpV_lt a573
  rw [v30,v525] at v573
  have b621:=c_ge a621
  simp only [ev_var,ev_lit] at b621
  refine ⟨fun h=>?_,fun h=>?_⟩
  ·have:¬ bi0 b<bP:=by rw [<- v573];omega
   rw [read2V_n hn h64 (fun hc=>this hc.1.2)];rfl
  have hlt2:bi0 b<bP:=by rw [<- v573];omega
  rw [read2V_p hn h64 ⟨⟨hlt,hlt2⟩,hsq⟩]
  have hon:onV2 (br0 b) (bi0 b) (rt2 (sd0 b)).1 (rt2 (sd0 b)).2 0:=on_rt2 hlt hlt2 hsq
  clear a237 a285 a333 v237 v285 b333 a525 a573 a621 v525 v573 b621 h
  intro a717 _ a718 _ a719 _
  refine ⟨bit_nz a718 (Int.le_refl _),lt_nz a719 (pos a717),fun a720 _ a721 _ a722 _=>?_⟩
  have v720:e 720=b.getD 0 0:=by rw [<- d0];exact a720
  have v721:e 721=binE .and .u8 (b.getD 0 0) 32:=by rw [<- v720];exact a721
  have b722:=c_ne a722
  simp only [ev_var,ev_lit] at b722
  rw [v721] at b722
  refine ⟨fun h=>?_,fun h=>?_⟩
  ·have h32:¬ binE .and .u8 (b.getD 0 0) 32=0:=by
    rcases b722 with ⟨_,h2⟩ | ⟨h1,_⟩
    ·exact h2
    ·exact absurd h1 h
   rw [if_neg h32]
   refine ⟨trivial,fun a1 _ a2 _ a3 _ a4 _ a5 _ a6 _=>?_⟩
   have hnv:=negV2_t hon
   have v1:e 723=br0 b:=by rw [show e 723=(negV2 (e 39) (e 40) (e 41) (e 42) (e 43)).getD 0 0 from a1,v39,v40,v41,v42,v43,hnv];rfl
   have v2:e 724=bi0 b:=by rw [show e 724=(negV2 (e 39) (e 40) (e 41) (e 42) (e 43)).getD 1 0 from a2,v39,v40,v41,v42,v43,hnv];rfl
   have v3:e 725=(ng2 (rt2 (sd0 b))).1:=by rw [show e 725=(negV2 (e 39) (e 40) (e 41) (e 42) (e 43)).getD 2 0 from a3,v39,v40,v41,v42,v43,hnv];rfl
   have v4:e 726=(ng2 (rt2 (sd0 b))).2:=by rw [show e 726=(negV2 (e 39) (e 40) (e 41) (e 42) (e 43)).getD 3 0 from a4,v39,v40,v41,v42,v43,hnv];rfl
   have v5:e 727=0:=by rw [show e 727=(negV2 (e 39) (e 40) (e 41) (e 42) (e 43)).getD 4 0 from a5,v39,v40,v41,v42,v43,hnv];rfl
   have h5:=tailP2_says (T:=[kWRead f1,kAt2 f2,kWCmp f3,kMBase f4,kNeg2 f5,kBytes2 te f6,kInG2 f7]) (f1:=f6) (f2:=f7) (e:=e) rfl rfl 729 (.var 723) (.var 724) (.var 725) (.var 726) (.var 727) d0 (by show onV2 (e 723) (e 724) (e 725) (e 726) (e 727);rw [v1,v2,v3,v4,v5];exact on_neg2 hon)
   rw [show (A.var 723).ev e=_ from v1,show (A.var 724).ev e=_ from v2,show (A.var 725).ev e=_ from v3,show (A.var 726).ev e=_ from v4,show (A.var 727).ev e=_ from v5] at h5
   exact h5
  ·have h32:binE .and .u8 (b.getD 0 0) 32=0:=by
    rcases b722 with ⟨h1,_⟩ | ⟨_,h2⟩
    ·omega
    ·exact h2
   rw [if_pos h32]
   have h5:=tailP2_says (T:=[kWRead f1,kAt2 f2,kWCmp f3,kMBase f4,kNeg2 f5,kBytes2 te f6,kInG2 f7]) (f1:=f6) (f2:=f7) (e:=e) rfl rfl 723 (.var 39) (.var 40) (.var 41) (.var 42) (.var 43) d0 (by show onV2 (e 39) (e 40) (e 41) (e 42) (e 43);rw [v39,v40,v41,v42,v43];exact hon)
   rw [show (A.var 39).ev e=_ from v39,show (A.var 40).ev e=_ from v40,show (A.var 41).ev e=_ from v41,show (A.var 42).ev e=_ from v42,show (A.var 43).ev e=_ from v43] at h5
   exact h5
 ·rw [read2V_z hn (b_no b8 h)]
  exact tailP2_says (T:=[kWRead f1,kAt2 f2,kWCmp f3,kMBase f4,kNeg2 f5,kBytes2 te f6,kInG2 f7]) (f1:=f6) (f2:=f7) rfl rfl 9 (.lit 0) (.lit 0) (.lit 0) (.lit 0) (.lit 1) d0 on_zero2
end Go.Sx
namespace Go.Sx
open Go Go.RowKit
set_option maxRecDepth 100000
def eqs2 (i i':Nat):D:=.eqs [(.limb i 0,.limb 0 0),(.limb i 1,.limb 0 1),(.limb i 2,.limb 0 2),(.limb i 3,.limb 0 3),(.limb i 4,.limb 0 4),(.limb i 5,.limb 0 5),(.limb i' 0,.limb 1 0),(.limb i' 1,.limb 1 1),(.limb i' 2,.limb 1 2),(.limb i' 3,.limb 1 3),(.limb i' 4,.limb 1 4),(.limb i' 5,.limb 1 5)]
def lessT (x y n:Nat):Tree:=.req 7 [.var x,.var y] (.lett n .num (.app 7 0 [.var x,.var y]) (.lett (n+1) .num (.app 7 1 [.var x,.var y]) (.ret [.var n,.var (n+1),.lit 1])))
def tryT (n c:Nat) (k:Nat->Tree):Tree :=
 .req 2 [.var 2,.var 3,.var 4,.var 0,.var n] (.lett (c+1) .num (.app 2 0 [.var 2,.var 3,.var 4,.var 0,.var n])
 (.req 4 [.var (c+1)] (.lett (c+2) .num (.app 4 0 [.var (c+1)])
 (.req 1 [.var (c+2)] (.lett (c+3) .num (.app 1 0 [.var (c+2)]) (.lett (c+4) .bit (.app 1 1 [.var (c+2)])
 (.req 5 [.var 2,.var 3,.var 4,.var n,.var 0] (.lett (c+5) .num (.app 5 0 [.var 2,.var 3,.var 4,.var n,.var 0])
 (.req 4 [.var (c+5)] (.lett (c+6) .num (.app 4 0 [.var (c+5)])
 (.req 1 [.var (c+6)] (.lett (c+7) .num (.app 1 0 [.var (c+6)]) (.lett (c+8) .bit (.app 1 1 [.var (c+6)])
 (.split (c+4) (.split (c+8)
 (.req 6 [.var (c+3),.var (c+7),.var (c+3),.var (c+7)] (.lett (c+105) .num (.app 6 0 [.var (c+3),.var (c+7),.var (c+3),.var (c+7)]) (.lett (c+106) .num (.app 6 1 [.var (c+3),.var (c+7),.var (c+3),.var (c+7)])
 (.lett (c+201) .bit (eqs2 (c+105) (c+106))
 (.split (c+201) (lessT (c+3) (c+7) (c+249))
 (.req 8 [.var 2,.var 3,.var 4,.var (c+7)] (.lett (c+393) .num (.app 8 0 [.var 2,.var 3,.var 4,.var (c+7)])
 (.req 6 [.var (c+3),.var (c+393),.var (c+3),.var (c+393)] (.lett (c+633) .num (.app 6 0 [.var (c+3),.var (c+393),.var (c+3),.var (c+393)]) (.lett (c+634) .num (.app 6 1 [.var (c+3),.var (c+393),.var (c+3),.var (c+393)])
 (.lett (c+729) .bit (eqs2 (c+633) (c+634))
 (.split (c+729) (lessT (c+3) (c+393) (c+777)) (k (c+777))))))))))))))
  (k (c+9))) (k (c+9))))))))))))))))
def tR3Root2:Tree :=
  .req 0 [] (.lett 2 .num (.app 0 0 []) (.lett 3 (.int .u64) (.app 0 1 []) (.lett 4 .num (.app 0 2 [])
  (.req 3 [.var 2,.var 3,.var 4,.var 0,.var 0] (.lett 293 .num (.app 3 0 [.var 2,.var 3,.var 4,.var 0,.var 0])
  (.req 3 [.var 2,.var 3,.var 4,.var 1,.var 1] (.lett 581 .num (.app 3 0 [.var 2,.var 3,.var 4,.var 1,.var 1])
  (.req 2 [.var 2,.var 3,.var 4,.var 293,.var 581] (.lett 629 .num (.app 2 0 [.var 2,.var 3,.var 4,.var 293,.var 581])
  (.req 1 [.var 629] (.lett 677 .num (.app 1 0 [.var 629]) (.lett 678 .bit (.app 1 1 [.var 629]) (.lett 1013 .bit (.not (.var 678))
  (.split 1013 (.ret [.lit 0,.lit 0,.lit 0])
   (tryT 677 1013 fun b=>.req 8 [.var 2,.var 3,.var 4,.var 677] (.lett b .num (.app 8 0 [.var 2,.var 3,.var 4,.var 677])
     (tryT b b fun d=>.req 8 [.var 2,.var 3,.var 4,.var b] (.lett d .num (.app 8 0 [.var 2,.var 3,.var 4,.var b]) (.ret [.lit 0,.lit 0,.lit 0])))))))))))))))))))
def hitP (A B n:Int):Prop:=(sqV ((A+n)*hP)/\sqV ((n-A)*hP))/\(S2 (R2.mul (rtV ((A+n)*hP),rtV ((n-A)*hP)) (rtV ((A+n)*hP),rtV ((n-A)*hP))) (A,B)∨S2 (R2.mul (rtV ((A+n)*hP),-rtV ((n-A)*hP)) (rtV ((A+n)*hP),-rtV ((n-A)*hP))) (A,B))
section
variable {T:List K} {g1 g2 g4 g5 g6 g7 g8:FuncId}
theorem lessT_says {e:Nat->Int} (h7:T[7]?=some (kR3Less g7)) (x y n:Nat) {A B:Int} (hc:cn (e x,e y)) (hs:S2 (R2.mul (e x,e y) (e x,e y)) (A,B)):(lessT x y n).says T ⟨fun ys=>ys=root2R (A,B),[]⟩ e:=by
 refine ⟨by rw [h7];exact ⟨hc.1.2,hc.2.2⟩,fun a1 _ a2 _=>?_⟩
 simp only [D.ev,h7] at a1 a2
 show [e n,e (n+1),1]=_
 rw [root2R_of hc hs,show e n=(les2 (e x,e y)).1 from a1,show e (n+1)=(les2 (e x,e y)).2 from a2]
theorem tryT_says (h1:T[1]?=some (kR3Root1 g1)) (h2:T[2]?=some (kFAdd g2)) (h4:T[4]?=some (kR3Half g4)) (h5:T[5]?=some (kFSub g5)) (h6:T[6]?=some (kRMul2 g6)) (h7:T[7]?=some (kR3Less g7)) (h8:T[8]?=some (kFNeg g8)) (n c:Nat) (k:Nat->Tree) {e:Nat->Int} {A B:Int}
  (hA:(e 0=A/\0<=A/\A<bP)) (hB:(e 1=B/\0<=B/\B<bP)) (q2:e 2=bP) (rn:e n<bP)
  (hk:¬ hitP A B (e n)->∀ b,(k b).says T ⟨fun ys=>ys=root2R (A,B),[]⟩ e):(tryT n c k).says T ⟨fun ys=>ys=root2R (A,B),[]⟩ e:=by
 have kA:0<=e 0/\e 0<N384:=⟨by rw [hA.1];exact hA.2.1,by rw [hA.1];exact Int.lt_trans hA.2.2 (by decide)⟩
 have kB:0<=e 1/\e 1<N384:=⟨by rw [hB.1];exact hB.2.1,by rw [hB.1];exact Int.lt_trans hB.2.2 (by decide)⟩
 have u0:e 0<bP:=by rw [hA.1];exact hA.2.2
 refine ⟨by rw [h2];exact ⟨F_382 q2,by show e 0<e 2;rw [q2];exact u0,by show e n<e 2;rw [q2];exact rn⟩,fun a1 _=>?_⟩
 simp only [D.ev,h2] at a1
 have v1:e (c+1)=(A+e n)%bP:=by rw [show e (c+1)=(e 0+e n)%e 2 from a1,q2,hA.1]
 refine ⟨by rw [h4];exact M_lt v1,fun a2 _=>?_⟩
 simp only [D.ev,h4] at a2
 have v2:e (c+2)=(A+e n)*hP%bP:=by rw [show e (c+2)=e (c+1)*hP%bP from a2,v1];exact mdE_mul (md_self _) rfl
 refine ⟨by rw [h1];exact M_lt v2,fun a3 _ a4 _=>?_⟩
 simp only [D.ev,h1] at a3 a4
 obtain ⟨x,hx⟩:∃ x,x=rtV ((A+e n)*hP):=⟨_,rfl⟩
 have v3:e (c+3)=x:=by rw [show e (c+3)=rtV (e (c+2)) from a3,v2,rtV_mod,hx]
 have v4:e (c+4)=bj (sqV ((A+e n)*hP)):=by rw [show e (c+4)=bj (sqV (e (c+2))) from a4,v2];exact bj_iff (sqV_mod _)
 refine ⟨by rw [h5];exact ⟨F_382 q2,by show e n<e 2;rw [q2];exact rn,by show e 0<e 2;rw [q2];exact u0⟩,fun a5 _=>?_⟩
 simp only [D.ev,h5] at a5
 have v5:e (c+5)=(e n-A)%bP:=by rw [show e (c+5)=(e n-e 0)%e 2 from a5,q2,hA.1]
 refine ⟨by rw [h4];exact M_lt v5,fun a6 _=>?_⟩
 simp only [D.ev,h4] at a6
 have v6:e (c+6)=(e n-A)*hP%bP:=by rw [show e (c+6)=e (c+5)*hP%bP from a6,v5];exact mdE_mul (md_self _) rfl
 refine ⟨by rw [h1];exact M_lt v6,fun a7 _ a8 _=>?_⟩
 simp only [D.ev,h1] at a7 a8
 obtain ⟨y,hy⟩:∃ y,y=rtV ((e n-A)*hP):=⟨_,rfl⟩
 have v7:e (c+7)=y:=by rw [show e (c+7)=rtV (e (c+6)) from a7,v6,rtV_mod,hy]
 have v8:e (c+8)=bj (sqV ((e n-A)*hP)):=by rw [show e (c+8)=bj (sqV (e (c+6))) from a8,v6];exact bj_iff (sqV_mod _)
 have rx:0<=x/\x<bP:=by rw [hx];exact rt_rng _
 have ry:0<=y/\y<bP:=by rw [hy];exact rt_rng _
 have hcn:cn (e (c+3),e (c+7)):=by rw [v3,v7];exact ⟨rx,ry⟩
 refine ⟨fun s4=>⟨fun s8=>?_,fun s8=>hk (fun hh=>bj_z v8 s8 hh.1.2) _⟩,fun s4=>hk (fun hh=>bj_z v4 s4 hh.1.1) _⟩
 refine ⟨by rw [h6];exact ⟨hcn.1.2,hcn.2.2,hcn.1.2,hcn.2.2⟩,fun a105 k105 a106 k106 a201 _=>?_⟩
 simp only [D.ev,h6] at a105 a106
 have v105:e (c+105)=(x*x-y*y)%bP:=by rw [show e (c+105)=(e (c+3)*e (c+3)-e (c+7)*e (c+7))%bP from a105,v3,v7]
 have v106:e (c+106)=(x*y+y*x)%bP:=by rw [show e (c+106)=(e (c+3)*e (c+7)+e (c+7)*e (c+3))%bP from a106,v3,v7]
 have b201:=c_num2 a201 k105 kA k106 kB
 rw [hA.1,hB.1,v105,v106] at b201
 have mA:A%bP=A:=Int.emod_eq_of_lt hA.2.1 hA.2.2
 have mB:B%bP=B:=Int.emod_eq_of_lt hB.2.1 hB.2.2
 refine ⟨fun s=>?_,fun s=>?_⟩
 ·have z:=b_yes b201 s
  refine lessT_says h7 (c+3) (c+7) (c+249) hcn ?_
  rw [v3,v7]
  exact ⟨by rw [mA];exact z.1,by rw [mB];exact z.2⟩
 have z1:¬ S2 (R2.mul (x,y) (x,y)) (A,B):=fun hh=>b_no b201 s ⟨hh.1.trans mA,hh.2.trans mB⟩
 refine ⟨by rw [h8];show e (c+7)<e 2;rw [q2];exact hcn.2.2,fun a393 _=>?_⟩
 simp only [D.ev,h8] at a393
 have v393:e (c+393)=(-y)%bP:=by rw [show e (c+393)=(-e (c+7))%e 2 from a393,q2,v7]
 have hcn2:cn (e (c+3),e (c+393)):=by rw [v393];exact ⟨hcn.1,md_lt bP_pos⟩
 refine ⟨by rw [h6];exact ⟨hcn2.1.2,hcn2.2.2,hcn2.1.2,hcn2.2.2⟩,fun a633 k633 a634 k634 a729 _=>?_⟩
 simp only [D.ev,h6] at a633 a634
 obtain ⟨y',hy'⟩:∃ y',y'=(-y)%bP:=⟨_,rfl⟩
 rw [<- hy'] at v393
 have v633:e (c+633)=(x*x-y'*y')%bP:=by rw [show e (c+633)=(e (c+3)*e (c+3)-e (c+393)*e (c+393))%bP from a633,v3,v393]
 have v634:e (c+634)=(x*y'+y'*x)%bP:=by rw [show e (c+634)=(e (c+3)*e (c+393)+e (c+393)*e (c+3))%bP from a634,v3,v393]
 have b729:=c_num2 a729 k633 kA k634 kB
 rw [hA.1,hB.1,v633,v634] at b729
 refine ⟨fun s=>?_,fun s=>?_⟩
 ·have z:=b_yes b729 s
  refine lessT_says h7 (c+3) (c+393) (c+777) hcn2 ?_
  rw [v3,v393]
  exact ⟨by rw [mA];exact z.1,by rw [mB];exact z.2⟩
 ·refine hk (fun hh=>?_) _
  have hh:=hh.2
  rw [<- hx,<- hy] at hh
  rcases hh with hh | hh
  ·exact z1 hh
  ·have sy:S2 (x,y') (x,-y):=⟨rfl,by rw [hy'];exact md_self _⟩
   have:=S2_trans (S2R_mul sy sy) hh
   exact b_no b729 s ⟨this.1.trans mA,this.2.trans mB⟩
end
theorem law_r3Root2 (f1 f2 f3 f4 f5 f6 f7 f8 f9 f:FuncId) (e:Nat->Int) (hk:kkHas [.num,.num] [e 0,e 1]) (hp:(kR3Root2 f).pre [e 0,e 1]):tR3Root2.says [kRP f1,kR3Root1 f2,kFAdd f3,kFMul f4,kR3Half f5,kFSub f6,kRMul2 f7,kR3Less f8,kFNeg f9] ⟨fun ys=>ys=(kR3Root2 f).sem [e 0,e 1],[]⟩ e:=by
 obtain ⟨u0,u1⟩:e 0<bP/\e 1<bP:=hp
 show tR3Root2.says _ ⟨fun ys=>ys=root2R (e 0,e 1),[]⟩ e
 obtain ⟨A,hA⟩:∃ A,e 0=A:=⟨_,rfl⟩
 obtain ⟨B,hB⟩:∃ B,e 1=B:=⟨_,rfl⟩
 have HA:e 0=A/\0<=A/\A<bP:=⟨hA,by rw [<- hA];exact hk.1.1,by rw [<- hA];exact u0⟩
 have HB:e 1=B/\0<=B/\B<bP:=⟨hB,by rw [<- hB];exact hk.2.1.1,by rw [<- hB];exact u1⟩
 rw [hA,hB]
 refine ⟨trivial,fun a2 _ a3 _ a4 _=>?_⟩
 have q2:e 2=bP:=a2
 have hg:=F_good q2 (show e 3=lowP from a3) (show e 4=sqP from a4)
 refine ⟨⟨hg,.inl (by show e 0<e 2;rw [q2];exact u0)⟩,fun a293 _=>⟨⟨hg,.inl (by show e 1<e 2;rw [q2];exact u1)⟩,fun a581 _=>?_⟩⟩
 have v293:e 293=A*A%bP:=by rw [show e 293=e 0*e 0%e 2 from a293,q2,hA]
 have v581:e 581=B*B%bP:=by rw [show e 581=e 1*e 1%e 2 from a581,q2,hB]
 refine ⟨⟨F_382 q2,F_lt q2 v293,F_lt q2 v581⟩,fun a629 _=>?_⟩
 have v629:e 629=(A*A+B*B)%bP:=by
  rw [show e 629=(e 293+e 581)%e 2 from a629,q2,v293,v581];exact mdE_add (md_self _) (md_self _)
 refine ⟨M_lt v629,fun a677 _ a678 _ a1013 _=>?_⟩
 obtain ⟨s,hs⟩:∃ s,s=rtV (A*A+B*B):=⟨_,rfl⟩
 have v677:e 677=s:=by rw [show e 677=rtV (e 629) from a677,v629,rtV_mod,hs]
 have v678:e 678=bj (sqV (A*A+B*B)):=by rw [show e 678=bj (sqV (e 629)) from a678,v629];exact bj_iff (sqV_mod _)
 have b1013:=c_not a1013
 simp only [ev_var] at b1013
 refine ⟨fun h=>?_,fun h=>?_⟩
 ·have hq:=bj_z v678 (b_yes b1013 h)
  refine (root2R_f (fun hh=>hq ?_)).symm
  obtain ⟨n,c,d,h1,_⟩:=sq2_norm hh hP_two
  exact sq_of h1
 have hq:=bj_nz v678 (b_no b1013 h)
 have hss:s*s%bP=(A*A+B*B)%bP:=by rw [hs];exact hq
 have rs:0<=s/\s<bP:=by rw [hs];exact rt_rng _
 refine tryT_says (T:=[kRP f1,kR3Root1 f2,kFAdd f3,kFMul f4,kR3Half f5,kFSub f6,kRMul2 f7,kR3Less f8,kFNeg f9]) rfl rfl rfl rfl rfl rfl rfl 677 1013 _ HA HB q2 (by rw [v677];exact rs.2) (fun n1 b=>?_)
 rw [v677] at n1
 refine ⟨by show e 677<e 2;rw [q2,v677];exact rs.2,fun ab _=>?_⟩
 have vb:e b=(-s)%bP:=by rw [show e b=(-e 677)%e 2 from ab,q2,v677]
 refine tryT_says (T:=[kRP f1,kR3Root1 f2,kFAdd f3,kFMul f4,kR3Half f5,kFSub f6,kRMul2 f7,kR3Less f8,kFNeg f9]) rfl rfl rfl rfl rfl rfl rfl b b _ HA HB q2 (M_lt vb) (fun n2 d=>?_)
 refine ⟨by show e b<e 2;rw [q2];exact M_lt vb,fun _ _=>?_⟩
 refine (root2R_f (fun hh=>?_)).symm
 obtain ⟨n,c,d,h1,h2,h3,h4,h5⟩:=sq2_norm hh hP_two
 rcases sq_pm (hss.trans h1) with hn | hn
 ·exact n1 (ref_hit hP_two hn h2 h3 h4 h5)
 ·refine n2 (ref_hit hP_two ?_ h2 h3 h4 h5)
  rw [vb,md_self]
  have:=mdE_neg hn
  rwa [Int.neg_neg] at this
def tailR2 (n:Nat) (x y u v z:A):Tree:=.req 6 [x,y,u,v,z] (.lett n .bit (.app 6 0 [x,y,u,v,z]) (.lett (n+48) .bit (.not (.var n)) (.split (n+48)
 (.ret [.lit 0,.lit 0,.lit 0,.lit 0,.lit 0,.lit 4])
 (.req 7 [x,y,u,v,z] (.lett (n+192) (.lst (.int .u8)) (.app 7 0 [x,y,u,v,z]) (.lett (n+384) .bit (.lsame (.var (n+192)) (.var 0)) (.lett (n+385) .bit (.not (.var (n+384))) (.split (n+385)
 (.ret [.lit 0,.lit 0,.lit 0,.lit 0,.lit 0,.lit 4])
 (.req 8 [x,y,u,v,z] (.lett (n+480) .bit (.app 8 0 [x,y,u,v,z]) (.lett (n+481) .bit (.not (.var (n+480))) (.split (n+481) (.ret [.lit 0,.lit 0,.lit 0,.lit 0,.lit 0,.lit 5]) (.ret [x,y,u,v,z,.lit 0])))))))))))))
open Classical in
theorem tailR2_says {T:List K} {e:Nat->Int} {te:TypeId} {f0 f1 f2:FuncId} (h6:T[6]?=some (kCheck2 f0)) (h7:T[7]?=some (kRBytes2 te f1)) (h8:T[8]?=some (kInG2 f2)) (n:Nat) (x y u v z:A) {b:List Int} (hb:dec (e 0)=b) :
  (tailR2 n x y u v z).says T ⟨fun ys=>ys=if onV2 (x.ev e) (y.ev e) (u.ev e) (v.ev e) (z.ev e) then fin2V b (x.ev e) (y.ev e) (u.ev e) (v.ev e) (z.ev e) else [0,0,0,0,0,4],[]⟩ e:=by
 refine ⟨by rw [h6];trivial,fun a0 _ a1 _=>?_⟩
 have v0:e n=bj (onV2 (x.ev e) (y.ev e) (u.ev e) (v.ev e) (z.ev e)):=by
  have:=a0;simp only [D.ev,h6] at this;exact this
 have b1:=c_not a1
 simp only [ev_var] at b1
 refine ⟨fun h=>?_,fun h=>?_⟩
 ·rw [if_neg (bj_z v0 (b_yes b1 h))];rfl
 have hon:=bj_nz v0 (b_no b1 h)
 rw [if_pos hon]
 unfold fin2V
 refine ⟨by rw [h7];exact hon.1.1.2,fun a2 _ a3 _ a4 _=>?_⟩
 have v2:e (n+192)=enc (bytes2V (x.ev e) (y.ev e) (u.ev e) (v.ev e) (z.ev e)):=by
  have:=a2;simp only [D.ev,h7] at this;exact this
 have b3:=c_same a3
 have b4:=c_not a4
 simp only [ev_var] at b3 b4
 rw [v2,dec_enc,hb] at b3
 refine ⟨fun h=>?_,fun h=>?_⟩
 ·have:¬ bytes2V (x.ev e) (y.ev e) (u.ev e) (v.ev e) (z.ev e)=b:=by
   have:=b_yes b4 h
   rcases b3 with ⟨h1,_⟩ | ⟨_,h2⟩
   ·omega
   ·exact h2
  rw [if_neg this];rfl
 ·have:bytes2V (x.ev e) (y.ev e) (u.ev e) (v.ev e) (z.ev e)=b:=by
   have:=b_no b4 h
   rcases b3 with ⟨_,h2⟩ | ⟨h1,_⟩
   ·exact h2
   ·exact absurd h1 this
  rw [if_pos this]
  refine ⟨by rw [h8];trivial,fun a5 _ a6 _=>?_⟩
  have v5:e (n+480)=bj (inG2 (x.ev e) (y.ev e) (u.ev e) (v.ev e) (z.ev e)):=by
   have:=a5;simp only [D.ev,h8] at this;exact this
  have b6:=c_not a6
  simp only [ev_var] at b6
  refine ⟨fun h=>?_,fun h=>?_⟩
  ·rw [if_neg (bj_z v5 (b_yes b6 h))];rfl
  ·rw [if_pos (bj_nz v5 (b_no b6 h))];rfl
theorem off_zero2 {x y:Int} (h:¬ isSq2 (side2 (x,y))):¬ onV2 x y 0 0 0:=fun hc=>by
 have h2:=((onV2_0 rfl).1 hc).2
 exact h ⟨(0,0),congrArg Prod.fst h2,congrArg Prod.snd h2⟩
theorem drop_set0 (l:List Int) (c:Int):(l.set 0 c).drop 48=l.drop 48:=by cases l <;> rfl
theorem root2R_01 (a:E2):(root2R a).getD 0 0=(rt2 a).1/\(root2R a).getD 1 0=(rt2 a).2:=by
 by_cases h:isSq2 a
 ·rw [root2R_t h];exact ⟨rfl,rfl⟩
 ·rw [root2R_f h,rt2_no h];exact ⟨rfl,rfl⟩
def tR5Read2:Tree:=(.lett 1 (.int .i64) (.llen (.var 0))
(.lett 2 .bit (.cmp .neq (.var 1) (.lit 96))
(.split 2
(.ret [.lit 0,.lit 0,.lit 0,.lit 0,.lit 0,.lit 4])
(.lett 3 (.int .i64) (.llen (.lit 0))
(.lett 4 .bit (.cmp .lss (.var 3) (.lit 2147483648))
(.lett 5 (.int .i64) (.llen (.var 0))
(.lett 6 .bit (.cmp .lss (.var 5) (.lit 2147483648))
(.nz (.var 4)
(.nz (.var 6)
(.lett 7 (.lst (.int .u8)) (.lcat (.lit 0) (.var 0))
(.lett 8 (.int .i64) (.llen (.var 7))
(.lett 9 .bit (.cmp .leq (.lit 0) (.lit 0))
(.lett 10 .bit (.cmp .lss (.lit 0) (.var 8))
(.nz (.var 9)
(.nz (.var 10)
(.lett 11 (.int .u8) (.lget (.var 7) (.lit 0))
(.lett 12 (.int .u8) (.bin .and .u8 (.var 11) (.lit 31))
(.lett 13 (.int .i64) (.llen (.var 7))
(.lett 14 .bit (.cmp .leq (.lit 0) (.lit 0))
(.lett 15 .bit (.cmp .lss (.lit 0) (.var 13))
(.nz (.var 14)
(.nz (.var 15)
(.lett 16 (.lst (.int .u8)) (.lput (.var 7) (.lit 0) (.var 12))
(.lett 17 (.int .i64) (.llen (.var 7))
(.lett 18 .bit (.cmp .leq (.lit 0) (.lit 0))
(.lett 19 .bit (.cmp .leq (.lit 0) (.lit 48))
(.lett 20 .bit (.cmp .leq (.lit 48) (.var 17))
(.nz (.var 18)
(.nz (.var 19)
(.nz (.var 20)
(.lett 21 (.lst (.int .u8)) (.lsub (.var 16) (.lit 0) (.lit 48))
(.req 0 [.var 21]
(.lett 22 .num (.app 0 0 [.var 21])
(.lett 23 (.int .i64) (.app 0 1 [.var 21])
(.lett 24 (.int .i64) (.llen (.var 7))
(.lett 25 .bit (.cmp .leq (.lit 0) (.lit 48))
(.lett 26 .bit (.cmp .leq (.lit 48) (.var 24))
(.lett 27 .bit (.cmp .leq (.var 24) (.var 24))
(.nz (.var 25)
(.nz (.var 26)
(.nz (.var 27)
(.lett 28 (.lst (.int .u8)) (.lsub (.var 16) (.lit 48) (.var 24))
(.req 0 [.var 28]
(.lett 29 .num (.app 0 0 [.var 28])
(.lett 30 (.int .i64) (.app 0 1 [.var 28])
(.lett 31 (.int .i64) (.llen (.var 0))
(.lett 32 .bit (.cmp .leq (.lit 0) (.lit 0))
(.lett 33 .bit (.cmp .lss (.lit 0) (.var 31))
(.nz (.var 32)
(.nz (.var 33)
(.lett 34 (.int .u8) (.lget (.var 0) (.lit 0))
(.lett 35 (.int .u8) (.bin .and .u8 (.var 34) (.lit 64))
(.lett 36 .bit (.cmp .neq (.var 35) (.lit 0))
(.split 36
 (.req 6 [.lit 0,.lit 0,.lit 0,.lit 0,.lit 1]
 (.lett 85 .bit (.app 6 0 [.lit 0,.lit 0,.lit 0,.lit 0,.lit 1])
 (.lett 133 .bit (.not (.var 85))
 (.split 133
 (.ret [.lit 0,.lit 0,.lit 0,.lit 0,.lit 0,.lit 4])
 (.req 7 [.lit 0,.lit 0,.lit 0,.lit 0,.lit 1]
 (.lett 277 (.lst (.int .u8)) (.app 7 0 [.lit 0,.lit 0,.lit 0,.lit 0,.lit 1])
 (.lett 469 .bit (.lsame (.var 277) (.var 0))
 (.lett 470 .bit (.not (.var 469))
 (.split 470
 (.ret [.lit 0,.lit 0,.lit 0,.lit 0,.lit 0,.lit 4])
 (.req 8 [.lit 0,.lit 0,.lit 0,.lit 0,.lit 1]
 (.lett 565 .bit (.app 8 0 [.lit 0,.lit 0,.lit 0,.lit 0,.lit 1])
 (.lett 566 .bit (.not (.var 565))
 (.split 566
 (.ret [.lit 0,.lit 0,.lit 0,.lit 0,.lit 0,.lit 5])
 (.ret [.lit 0,.lit 0,.lit 0,.lit 0,.lit 1,.lit 0]))))))))))))))
 (.req 1 []
 (.lett 85 .num (.app 1 0 [])
 (.req 2 [.var 22,.var 85]
 (.lett 133 (.int .i64) (.app 2 0 [.var 22,.var 85])
 (.lett 181 .bit (.cmp .lss (.var 133) (.lit 0))
 (.split 181
 (.req 1 []
 (.lett 325 .num (.app 1 0 [])
 (.req 2 [.var 29,.var 325]
 (.lett 373 (.int .i64) (.app 2 0 [.var 29,.var 325])
 (.lett 421 .bit (.cmp .lss (.var 373) (.lit 0))
 (.split 421
 (.req 4 [.var 29,.var 22]
 (.lett 517 .num (.app 4 0 [.var 29,.var 22])
 (.lett 518 .num (.app 4 1 [.var 29,.var 22])
 (.req 3 [.var 517,.var 518]
 (.lett 519 .num (.app 3 0 [.var 517,.var 518])
 (.lett 520 .num (.app 3 1 [.var 517,.var 518])
 (.lett 521 .bit (.app 3 2 [.var 517,.var 518])
 (.lett 522 (.int .i64) (.llen (.var 0))
 (.lett 523 .bit (.cmp .leq (.lit 0) (.lit 0))
 (.lett 524 .bit (.cmp .lss (.lit 0) (.var 522))
 (.nz (.var 523)
 (.nz (.var 524)
 (.lett 525 (.int .u8) (.lget (.var 0) (.lit 0))
 (.lett 526 (.int .u8) (.bin .and .u8 (.var 525) (.lit 32))
 (.lett 527 .bit (.cmp .neq (.var 526) (.lit 0))
 (.split 527
 (.req 5 [.var 519,.var 520]
 (.lett 528 .num (.app 5 0 [.var 519,.var 520])
 (.lett 529 .num (.app 5 1 [.var 519,.var 520])
 (.req 6 [.var 29,.var 22,.var 528,.var 529,.lit 0]
 (.lett 578 .bit (.app 6 0 [.var 29,.var 22,.var 528,.var 529,.lit 0])
 (.lett 626 .bit (.not (.var 578))
 (.split 626
 (.ret [.lit 0,.lit 0,.lit 0,.lit 0,.lit 0,.lit 4])
 (.req 7 [.var 29,.var 22,.var 528,.var 529,.lit 0]
 (.lett 770 (.lst (.int .u8)) (.app 7 0 [.var 29,.var 22,.var 528,.var 529,.lit 0])
 (.lett 962 .bit (.lsame (.var 770) (.var 0))
 (.lett 963 .bit (.not (.var 962))
 (.split 963
 (.ret [.lit 0,.lit 0,.lit 0,.lit 0,.lit 0,.lit 4])
 (.req 8 [.var 29,.var 22,.var 528,.var 529,.lit 0]
 (.lett 1058 .bit (.app 8 0 [.var 29,.var 22,.var 528,.var 529,.lit 0])
 (.lett 1059 .bit (.not (.var 1058))
 (.split 1059
 (.ret [.lit 0,.lit 0,.lit 0,.lit 0,.lit 0,.lit 5])
 (.ret [.var 29,.var 22,.var 528,.var 529,.lit 0,.lit 0])))))))))))))))))
 (.req 6 [.var 29,.var 22,.var 519,.var 520,.lit 0]
 (.lett 576 .bit (.app 6 0 [.var 29,.var 22,.var 519,.var 520,.lit 0])
 (.lett 624 .bit (.not (.var 576))
 (.split 624
 (.ret [.lit 0,.lit 0,.lit 0,.lit 0,.lit 0,.lit 4])
 (.req 7 [.var 29,.var 22,.var 519,.var 520,.lit 0]
 (.lett 768 (.lst (.int .u8)) (.app 7 0 [.var 29,.var 22,.var 519,.var 520,.lit 0])
 (.lett 960 .bit (.lsame (.var 768) (.var 0))
 (.lett 961 .bit (.not (.var 960))
 (.split 961
 (.ret [.lit 0,.lit 0,.lit 0,.lit 0,.lit 0,.lit 4])
 (.req 8 [.var 29,.var 22,.var 519,.var 520,.lit 0]
 (.lett 1056 .bit (.app 8 0 [.var 29,.var 22,.var 519,.var 520,.lit 0])
 (.lett 1057 .bit (.not (.var 1056))
 (.split 1057
 (.ret [.lit 0,.lit 0,.lit 0,.lit 0,.lit 0,.lit 5])
 (.ret [.var 29,.var 22,.var 519,.var 520,.lit 0,.lit 0]))))))))))))))))))))))))))))))
 (.req 6 [.var 29,.var 22,.lit 0,.lit 0,.lit 0]
 (.lett 565 .bit (.app 6 0 [.var 29,.var 22,.lit 0,.lit 0,.lit 0])
 (.lett 613 .bit (.not (.var 565))
 (.split 613
 (.ret [.lit 0,.lit 0,.lit 0,.lit 0,.lit 0,.lit 4])
 (.req 7 [.var 29,.var 22,.lit 0,.lit 0,.lit 0]
 (.lett 757 (.lst (.int .u8)) (.app 7 0 [.var 29,.var 22,.lit 0,.lit 0,.lit 0])
 (.lett 949 .bit (.lsame (.var 757) (.var 0))
 (.lett 950 .bit (.not (.var 949))
 (.split 950
 (.ret [.lit 0,.lit 0,.lit 0,.lit 0,.lit 0,.lit 4])
 (.req 8 [.var 29,.var 22,.lit 0,.lit 0,.lit 0]
 (.lett 1045 .bit (.app 8 0 [.var 29,.var 22,.lit 0,.lit 0,.lit 0])
 (.lett 1046 .bit (.not (.var 1045))
 (.split 1046
 (.ret [.lit 0,.lit 0,.lit 0,.lit 0,.lit 0,.lit 5])
 (.ret [.var 29,.var 22,.lit 0,.lit 0,.lit 0,.lit 0]))))))))))))))))))))
 (.req 6 [.var 29,.var 22,.lit 0,.lit 0,.lit 0]
 (.lett 565 .bit (.app 6 0 [.var 29,.var 22,.lit 0,.lit 0,.lit 0])
 (.lett 613 .bit (.not (.var 565))
 (.split 613
 (.ret [.lit 0,.lit 0,.lit 0,.lit 0,.lit 0,.lit 4])
 (.req 7 [.var 29,.var 22,.lit 0,.lit 0,.lit 0]
 (.lett 757 (.lst (.int .u8)) (.app 7 0 [.var 29,.var 22,.lit 0,.lit 0,.lit 0])
 (.lett 949 .bit (.lsame (.var 757) (.var 0))
 (.lett 950 .bit (.not (.var 949))
 (.split 950
 (.ret [.lit 0,.lit 0,.lit 0,.lit 0,.lit 0,.lit 4])
 (.req 8 [.var 29,.var 22,.lit 0,.lit 0,.lit 0]
 (.lett 1045 .bit (.app 8 0 [.var 29,.var 22,.lit 0,.lit 0,.lit 0])
 (.lett 1046 .bit (.not (.var 1045))
 (.split 1046
 (.ret [.lit 0,.lit 0,.lit 0,.lit 0,.lit 0,.lit 5])
 (.ret [.var 29,.var 22,.lit 0,.lit 0,.lit 0,.lit 0]))))))))))))))))))))))))))))))))))))))))))))))))))))))))))))))))))))))))))
theorem law_rRead2 (te:TypeId) (f1 f2 f3 f4 f5 f6 f7 f8 f9 f:FuncId) (e:Nat->Int):tR5Read2.says [kWRead f1,kMBase f2,kWCmp f3,kR3Root2 f4,kRSide2 f5,kRNeg2 f6,kCheck2 f7,kRBytes2 te f8,kInG2 f9] ⟨fun ys=>ys=(kRead2 f).sem [e 0],[]⟩ e:=by
 obtain ⟨b,d0⟩:∃ b,dec (e 0)=b:=⟨_,rfl⟩
 show tR5Read2.says _ ⟨fun ys=>ys=read2V (dec (e 0)),[]⟩ e
 rw [d0]
 have len:∀ {v:Int},v=((dec (e 0)).length:Int)->v=(b.length:Int):=fun h=>by rw [h,d0]
 intro a1 _ a2 _
 have v1:=len a1
 have b2:=c_ne a2
 simp only [ev_var,ev_lit] at b2
 refine ⟨fun h=>?_,fun h=>?_⟩
 ·rw [read2V_len (by omega)];rfl
 have hn:b.length=96:=by omega
 have pos:∀ {v:Int},v=((dec (e 0)).length:Int)->0<v:=fun h=>by rw [len h,hn];decide
 clear b2 h v1 a1 a2
 intro a3 _ a4 _ a5 _ a6 _
 have v3:e 3=0:=by rw [show e 3=((dec 0).length:Int) from a3,dec_zero];rfl
 have v5:=len a5
 refine ⟨lt_nz a4 (by show e 3<2147483648;omega),lt_nz a6 (by show e 5<2147483648;omega),fun a7 _ a8 _ a9 _ a10 _=>?_⟩
 have d7:dec (e 7)=b:=by rw [show e 7=enc (dec 0++dec (e 0)) from a7,dec_enc,dec_zero,d0];rfl
 have v8:e 8=(b.length:Int):=by rw [<- d7];exact a8
 refine ⟨bit_nz a9 (Int.le_refl _),lt_nz a10 (by show 0<e 8;omega),fun a11 _ a12 _ a13 _ a14 _ a15 _=>?_⟩
 have v11:e 11=b.getD 0 0:=by rw [<- d7];exact a11
 have v12:e 12=binE .and .u8 (b.getD 0 0) 31:=by rw [<- v11];exact a12
 have v13:e 13=(b.length:Int):=by rw [<- d7];exact a13
 refine ⟨bit_nz a14 (Int.le_refl _),lt_nz a15 (by show 0<e 13;omega),fun a16 _ a17 _ a18 _ a19 _ a20 _=>?_⟩
 have d16:dec (e 16)=b.set 0 (binE .and .u8 (b.getD 0 0) 31):=by rw [show e 16=enc ((dec (e 7)).set 0 (e 12)) from a16,dec_enc,d7,v12]
 have v17:e 17=(b.length:Int):=by rw [<- d7];exact a17
 refine ⟨bit_nz a18 (Int.le_refl _),bit_nz a19 (show (0:Int)<=48 by decide),le_nz a20 (by show 48<=e 17;omega),fun a21 _=>⟨trivial,fun a22 _ a23 _ a24 _ a25 _ a26 _ a27 _=>?_⟩⟩
 have d21:dec (e 21)=(b.set 0 (binE .and .u8 (b.getD 0 0) 31)).take 48:=by
  rw [show e 21=enc (((dec (e 16)).take 48).drop 0) from a21,dec_enc,List.drop_zero,d16]
 have v22:e 22=bi0 b:=by
  rw [show e 22=(if (dec (e 21)).length<=48 then [readV (dec (e 21)),0] else [0,3]:List Int).getD 0 0 from a22,d21,if_pos (List.length_take_le _ _)];rfl
 have v24:e 24=(b.length:Int):=by rw [<- d7];exact a24
 refine ⟨bit_nz a25 (show (0:Int)<=48 by decide),le_nz a26 (by show 48<=e 24;omega),le_nz a27 (Int.le_refl _),fun a28 _=>⟨trivial,fun a29 _ a30 _ a31 _ a32 _ a33 _=>⟨bit_nz a32 (Int.le_refl _),lt_nz a33 (pos a31),fun a34 _ a35 _ a36 _=>?_⟩⟩⟩
 have d28:dec (e 28)=b.drop 48:=by
  rw [show e 28=enc (((dec (e 16)).take (e 24).toNat).drop 48) from a28,dec_enc,d16,v24,Int.toNat_natCast,List.take_of_length_le (by rw [List.length_set];exact Nat.le_refl _),drop_set0]
 have v29:e 29=br0 b:=by
  rw [show e 29=(if (dec (e 28)).length<=48 then [readV (dec (e 28)),0] else [0,3]:List Int).getD 0 0 from a29,d28,if_pos (by rw [List.length_drop,hn];decide)];rfl
 have v34:e 34=b.getD 0 0:=by rw [<- d0];exact a34
 have v35:e 35=binE .and .u8 (b.getD 0 0) 64:=by rw [<- v34];exact a35
 have b36:=c_ne a36
 simp only [ev_var,ev_lit] at b36
 rw [v35] at b36
 clear a3 a4 a5 a6 a7 a8 a9 a10 a11 a12 a13 a14 a15 a16 a17 a18 a19 a20 a21 a22 a23 a24 a25 a26 a27 a28 a29 a30 a31 a32 a33 a34 a35 a36 v3 v5 d7 v8 v11 v12 v13 d16 v17 d21 v24 d28 v34 v35
 refine ⟨fun h=>?_,fun h=>?_⟩
 ·have h64:¬ binE .and .u8 (b.getD 0 0) 64=0:=by
   rcases b36 with ⟨_,h2⟩ | ⟨h1,_⟩
   ·exact h2
   ·exact absurd h1 h
  rw [read2V_z hn h64]
  have:=tailR2_says (T:=[kWRead f1,kMBase f2,kWCmp f3,kR3Root2 f4,kRSide2 f5,kRNeg2 f6,kCheck2 f7,kRBytes2 te f8,kInG2 f9]) rfl rfl rfl 85 (.lit 0) (.lit 0) (.lit 0) (.lit 0) (.lit 1) d0
  rw [if_pos (show onV2 ((A.lit 0).ev e) ((A.lit 0).ev e) ((A.lit 0).ev e) ((A.lit 0).ev e) ((A.lit 1).ev e) from on_zero2)] at this
  exact this
 have h64:binE .and .u8 (b.getD 0 0) 64=0:=by
  rcases b36 with ⟨h1,_⟩ | ⟨_,h2⟩
  ·omega
  ·exact h2
 clear b36 h
 refine ⟨trivial,fun a85 _=>⟨trivial,fun a133 _ a181 _=>?_⟩⟩
 have v85:e 85=bP:=a85
 have v133:e 133<0↔e 22<e 85:=cmpV_lt a133
 rw [v22,v85] at v133
 have b181:=c_lt a181
 simp only [ev_var,ev_lit] at b181
 clear a85 a133 a181
 have bad:¬ (br0 b<bP/\bi0 b<bP)->∀ n,(tailR2 n (.var 29) (.var 22) (.lit 0) (.lit 0) (.lit 0)).says [kWRead f1,kMBase f2,kWCmp f3,kR3Root2 f4,kRSide2 f5,kRNeg2 f6,kCheck2 f7,kRBytes2 te f8,kInG2 f9] ⟨fun ys=>ys=read2V b,[]⟩ e:=fun hlt n=>by
  rw [read2V_n hn h64 (fun hc=>hlt hc.1)]
  have:=tailR2_says (T:=[kWRead f1,kMBase f2,kWCmp f3,kR3Root2 f4,kRSide2 f5,kRNeg2 f6,kCheck2 f7,kRBytes2 te f8,kInG2 f9]) rfl rfl rfl n (.var 29) (.var 22) (.lit 0) (.lit 0) (.lit 0) d0
  rw [if_neg (show ¬ onV2 ((A.var 29).ev e) ((A.var 22).ev e) ((A.lit 0).ev e) ((A.lit 0).ev e) ((A.lit 0).ev e) from fun hc=>hlt (by rw [<- v29,<- v22];exact hc.1.1))] at this
  exact this
 refine ⟨fun h=>?_,fun h=>?_⟩
 ·have hlt:bi0 b<bP:=by rw [<- v133];omega
  clear v133 b181 h v85
  refine ⟨trivial,fun a325 _=>⟨trivial,fun a373 _ a421 _=>?_⟩⟩
  have v325:e 325=bP:=a325
  have v373:e 373<0↔e 29<e 325:=cmpV_lt a373
  rw [v29,v325] at v373
  have b421:=c_lt a421
  simp only [ev_var,ev_lit] at b421
  clear a325 a373 a421
  refine ⟨fun h=>?_,fun h=>?_⟩
  ·have hlt2:br0 b<bP:=by rw [<- v373];omega
   clear v373 b421 h v325
   refine ⟨by show e 29<bP/\e 22<bP;rw [v29,v22];exact ⟨hlt2,hlt⟩,fun a517 _ a518 _=>?_⟩
   have v517:e 517=(sd0 b).1%bP:=by rw [show e 517=(side2 (e 29,e 22)).1%bP from a517,v29,v22];rfl
   have v518:e 518=(sd0 b).2%bP:=by rw [show e 518=(side2 (e 29,e 22)).2%bP from a518,v29,v22];rfl
   refine ⟨⟨M_lt v517,M_lt v518⟩,fun a519 _ a520 _ a521 _ a522 _ a523 _ a524 _=>⟨bit_nz a523 (Int.le_refl _),lt_nz a524 (pos a522),fun a525 _ a526 _ a527 _=>?_⟩⟩
   have hr:rt2 (e 517,e 518)=rt2 (sd0 b):=(rt2_S ⟨by rw [v517];exact md_self _,by rw [v518];exact md_self _⟩).1
   have v519:e 519=(rt2 (sd0 b)).1:=by rw [<- hr];exact (show e 519=(root2R (e 517,e 518)).getD 0 0 from a519).trans (root2R_01 _).1
   have v520:e 520=(rt2 (sd0 b)).2:=by rw [<- hr];exact (show e 520=(root2R (e 517,e 518)).getD 1 0 from a520).trans (root2R_01 _).2
   have v525:e 525=b.getD 0 0:=by rw [<- d0];exact a525
   have v526:e 526=binE .and .u8 (b.getD 0 0) 32:=by rw [<- v525];exact a526
   have b527:=c_ne a527
   simp only [ev_var,ev_lit] at b527
   rw [v526] at b527
   have hcn:=rt2_cn (sd0 b)
   clear a517 a518 a519 a520 a521 a522 a523 a524 a525 a526 a527 v517 v518 hr v525 v526
   have fin:∀ (n:Nat) (u v:A),(u.ev e,v.ev e)=(if binE .and .u8 (b.getD 0 0) 32=0 then rt2 (sd0 b) else ng2 (rt2 (sd0 b)))->(tailR2 n (.var 29) (.var 22) u v (.lit 0)).says [kWRead f1,kMBase f2,kWCmp f3,kR3Root2 f4,kRSide2 f5,kRNeg2 f6,kCheck2 f7,kRBytes2 te f8,kInG2 f9] ⟨fun ys=>ys=read2V b,[]⟩ e:=fun n u v huv=>by
    have:=tailR2_says (T:=[kWRead f1,kMBase f2,kWCmp f3,kR3Root2 f4,kRSide2 f5,kRNeg2 f6,kCheck2 f7,kRBytes2 te f8,kInG2 f9]) (e:=e) rfl rfl rfl n (.var 29) (.var 22) u v (.lit 0) d0
    have hx:(A.var 29).ev e=br0 b:=v29
    have hy:(A.var 22).ev e=bi0 b:=v22
    obtain ⟨Y,hY⟩:∃ Y,Y=(if binE .and .u8 (b.getD 0 0) 32=0 then rt2 (sd0 b) else ng2 (rt2 (sd0 b))):=⟨_,rfl⟩
    rw [<- hY] at huv
    have hu:u.ev e=Y.1:=congrArg Prod.fst huv
    have hv:v.ev e=Y.2:=congrArg Prod.snd huv
    rw [hx,hy,hu,hv] at this
    by_cases hs:isSq2 (sd0 b)
    ·have hon:onV2 (br0 b) (bi0 b) (rt2 (sd0 b)).1 (rt2 (sd0 b)).2 0:=on_rt2 hlt2 hlt hs
     have hY2:onV2 (br0 b) (bi0 b) Y.1 Y.2 0/\read2V b=fin2V b (br0 b) (bi0 b) Y.1 Y.2 0:=by
      rw [read2V_p hn h64 ⟨⟨hlt2,hlt⟩,hs⟩]
      by_cases h32:binE .and .u8 (b.getD 0 0) 32=0
      ·rw [if_pos h32] at hY
       rw [if_pos h32,hY];exact ⟨hon,rfl⟩
      ·rw [if_neg h32] at hY
       rw [if_neg h32,hY];exact ⟨on_neg2 hon,rfl⟩
     rw [if_pos (show onV2 (br0 b) (bi0 b) Y.1 Y.2 ((A.lit 0).ev e) from hY2.1)] at this
     rw [hY2.2];exact this
    ·rw [read2V_n hn h64 (fun hc=>hs hc.2)]
     have h0:Y=(0,0):=by
      rw [hY,rt2_no hs];split <;> rfl
     rw [h0,if_neg (show ¬ onV2 (br0 b) (bi0 b) 0 0 ((A.lit 0).ev e) from off_zero2 hs)] at this
     exact this
   refine ⟨fun h=>?_,fun h=>?_⟩
   ·have h32:¬ binE .and .u8 (b.getD 0 0) 32=0:=by
     rcases b527 with ⟨_,h2⟩ | ⟨h1,_⟩
     ·exact h2
     ·exact absurd h1 h
    refine ⟨⟨by show e 519<bP;rw [v519];exact hcn.1.2,by show e 520<bP;rw [v520];exact hcn.2.2⟩,fun a528 _ a529 _=>?_⟩
    exact fin 578 (.var 528) (.var 529) (by
     rw [if_neg h32]
     refine Prod.ext ?_ ?_
     ·show e 528=_;rw [show e 528=(-e 519)%bP from a528,v519];rfl
     ·show e 529=_;rw [show e 529=(-e 520)%bP from a529,v520];rfl)
   ·have h32:binE .and .u8 (b.getD 0 0) 32=0:=by
     rcases b527 with ⟨h1,_⟩ | ⟨_,h2⟩
     ·omega
     ·exact h2
    exact fin 576 (.var 519) (.var 520) (by rw [if_pos h32];exact Prod.ext v519 v520)
  ·have hlt2:¬ br0 b<bP:=by rw [<- v373];omega
   exact bad (fun hc=>hlt2 hc.1) 565
 ·have hlt:¬ bi0 b<bP:=by rw [<- v133];omega
  exact bad (fun hc=>hlt hc.2) 565
abbrev lsSg:List L:=[.int .i64,.num,.num,.num,.num,.bool,.int .u64,.int .u64,.bool]
theorem c_p2 {T:List K} {e:Nat->Int} {v:Int} {i j i' j' k:Nat} (h:v=(D.eqs [((.limb i 0),(.lit 0)),((.limb i 1),(.lit 0)),((.limb i 2),(.lit 0)),((.limb i 3),(.lit 0)),((.limb i 4),(.lit 0)),((.limb i 5),(.lit 0)),((.limb j 0),(.lit 0)),((.limb j 1),(.lit 0)),((.limb j 2),(.lit 0)),((.limb j 3),(.lit 0)),((.limb j 4),(.lit 0)),((.limb j 5),(.lit 0)),((.limb i' 0),(.lit 0)),((.limb i' 1),(.lit 0)),((.limb i' 2),(.lit 0)),((.limb i' 3),(.lit 0)),((.limb i' 4),(.lit 0)),((.limb i' 5),(.lit 0)),((.limb j' 0),(.lit 0)),((.limb j' 1),(.lit 0)),((.limb j' 2),(.lit 0)),((.limb j' 3),(.lit 0)),((.limb j' 4),(.lit 0)),((.limb j' 5),(.lit 0)),((.var k),(.lit 0))]).ev T e)
  (hi:0<=e i/\e i<N384) (hj:0<=e j/\e j<N384) (hi':0<=e i'/\e i'<N384) (hj':0<=e j'/\e j'<N384):(v=1/\((e i=0/\e j=0)/\(e i'=0/\e j'=0)/\e k=0))∨(v=0/\¬ ((e i=0/\e j=0)/\(e i'=0/\e j'=0)/\e k=0)):=by
 simp only [D.ev,List.all_cons,List.all_nil,ev_limb,ev_lit,ev_var,Bool.and_true,b2i_bi,Bool.and_eq_true,beq_iff_eq] at h
 by_cases hc:(e i=0/\e j=0)/\(e i'=0/\e j'=0)/\e k=0
 ·left;rw [hc.1.1,hc.1.2,hc.2.1.1,hc.2.1.2,hc.2.2] at h;simp [lim] at h;exact ⟨h,hc⟩
 ·right
  rw [if_neg (fun hh=>hc (by
   obtain ⟨a0,a1,a2,a3,a4,a5,b0,b1,b2,b3,b4,b5,c0,c1,c2,c3,c4,c5,d0,d1,d2,d3,d4,d5,z0⟩:=hh
   have z:∀ {x:Int},0<=x/\x<N384->lim x 0=0->lim x 1=0->lim x 2=0->lim x 3=0->lim x 4=0->lim x 5=0->x=0:=fun hx h0 h1 h2 h3 h4 h5=>by have:=lim_eq hx;omega
   exact ⟨⟨z hi a0 a1 a2 a3 a4 a5,z hj b0 b1 b2 b3 b4 b5⟩,⟨z hi' c0 c1 c2 c3 c4 c5,z hj' d0 d1 d2 d3 d4 d5⟩,z0⟩))] at h
  exact ⟨h,hc⟩
def sigOk (s a b c d z x y w:Int):Prop:=(s=0/\(x=0/\y=0/\w=0)/\inG2 a b c d z)∨(isL s/\((a=0/\b=0)/\(c=0/\d=0)/\z=0)/\inP (pL s) (rOf s) x y w)
theorem sigOk_0 {s a b c d z x y w:Int} (h:sigOk s a b c d z x y w) (h0:s=0):(x=0/\y=0/\w=0)/\inG2 a b c d z:=by
 rcases h with h | h
 ·exact h.2
 ·rcases h.1 with h1 | h1 <;> omega
theorem sigOk_L {s a b c d z x y w:Int} (h:sigOk s a b c d z x y w) (h0:¬ s=0):isL s/\((a=0/\b=0)/\(c=0/\d=0)/\z=0)/\inP (pL s) (rOf s) x y w:=by
 rcases h with h | h
 ·exact absurd h.1 h0
 ·exact h
theorem sigOk_s {s a b c d z x y w:Int} (h:sigOk s a b c d z x y w):isS s:=by
 rcases h with h | h
 ·exact ⟨by omega,by omega⟩
 ·rcases h.1 with h | h <;> exact ⟨by omega,by omega⟩
noncomputable def kSigChk (f:FuncId):K:={fn:=f,ext:=false,ins:=[.agg lsSg],outs:=[oB],pre:=fun _=>True,sem:=fun | [s,a,b,c,d,z,x,y,w]=>[bj (sigOk s a b c d z x y w)] | _=>[] }
open Classical in
noncomputable def sigMul (s a b c d z x y w n:Int):List Int :=
 if ¬ sigOk s a b c d z x y w then [0,0,0,0,0,0,0,0,0,5]
 else if ¬ n<rOf s then [0,0,0,0,0,0,0,0,0,2]
 else if s=0 then [0]++lowV2 (tmJ R2 (rsV2 a b c d z) 384 n.toNat)++[0,0,0,0]
 else [s,0,0,0,0,0]++(mulP (pL s) ⟨x,y,w⟩ 64 n.toNat).l++[0]
noncomputable def kSigMul (f:FuncId):K:={fn:=f,ext:=false,ins:=[.agg lsSg,iN],outs:=[.agg lsSg,oI],pre:=fun _=>True,sem:=fun | [s,a,b,c,d,z,x,y,w,n]=>sigMul s a b c d z x y w n | _=>[] }
open Classical in
noncomputable def sigAdd (s a b c d z x y w s' a' b' c' d' z' x' y' w':Int):List Int :=
 if ¬ sigOk s a b c d z x y w∨¬ sigOk s' a' b' c' d' z' x' y' w' then [0,0,0,0,0,0,0,0,0,5]
 else if s≠s' then [0,0,0,0,0,0,0,0,0,2]
 else if s=0 then [0]++lowV2 (sumJ R2 (rsV2 a b c d z) (rsV2 a' b' c' d' z'))++[0,0,0,0]
 else [s,0,0,0,0,0]++(sumP (pL s) ⟨x,y,w⟩ ⟨x',y',w'⟩).l++[0]
noncomputable def kSigAdd (f:FuncId):K:={fn:=f,ext:=false,ins:=[.agg lsSg,.agg lsSg],outs:=[.agg lsSg,oI],pre:=fun _=>True,sem:=fun | [s,a,b,c,d,z,x,y,w,s',a',b',c',d',z',x',y',w']=>sigAdd s a b c d z x y w s' a' b' c' d' z' x' y' w' | _=>[] }
def tSigChk2:Tree:=(.lett 9 .bit (.cmp .eql (.var 0) (.lit 0))
(.split 9
(.lett 10 .bit (.eqs [((.var 6),(.lit 0)),((.var 7),(.lit 0)),((.var 8),(.lit 0))])
(.split 10
 (.req 0 [.var 1,.var 2,.var 3,.var 4,.var 5]
 (.lett 11 .bit (.app 0 0 [.var 1,.var 2,.var 3,.var 4,.var 5])
 (.ret [.var 11])))
 (.ret [.lit 0])))
(.lett 10 .bit (.cmp .eql (.var 0) (.lit 1))
(.split 10
 (.lett 11 .bit (.eqs [((.limb 1 0),(.lit 0)),((.limb 1 1),(.lit 0)),((.limb 1 2),(.lit 0)),((.limb 1 3),(.lit 0)),((.limb 1 4),(.lit 0)),((.limb 1 5),(.lit 0)),((.limb 2 0),(.lit 0)),((.limb 2 1),(.lit 0)),((.limb 2 2),(.lit 0)),((.limb 2 3),(.lit 0)),((.limb 2 4),(.lit 0)),((.limb 2 5),(.lit 0)),((.limb 3 0),(.lit 0)),((.limb 3 1),(.lit 0)),((.limb 3 2),(.lit 0)),((.limb 3 3),(.lit 0)),((.limb 3 4),(.lit 0)),((.limb 3 5),(.lit 0)),((.limb 4 0),(.lit 0)),((.limb 4 1),(.lit 0)),((.limb 4 2),(.lit 0)),((.limb 4 3),(.lit 0)),((.limb 4 4),(.lit 0)),((.limb 4 5),(.lit 0)),((.var 5),(.lit 0))])
 (.split 11
 (.req 1 [.var 0,.var 6,.var 7,.var 8]
 (.lett 12 .bit (.app 1 0 [.var 0,.var 6,.var 7,.var 8])
 (.ret [.var 12])))
 (.ret [.lit 0])))
 (.lett 11 .bit (.cmp .eql (.var 0) (.lit 2))
 (.split 11
 (.lett 12 .bit (.eqs [((.limb 1 0),(.lit 0)),((.limb 1 1),(.lit 0)),((.limb 1 2),(.lit 0)),((.limb 1 3),(.lit 0)),((.limb 1 4),(.lit 0)),((.limb 1 5),(.lit 0)),((.limb 2 0),(.lit 0)),((.limb 2 1),(.lit 0)),((.limb 2 2),(.lit 0)),((.limb 2 3),(.lit 0)),((.limb 2 4),(.lit 0)),((.limb 2 5),(.lit 0)),((.limb 3 0),(.lit 0)),((.limb 3 1),(.lit 0)),((.limb 3 2),(.lit 0)),((.limb 3 3),(.lit 0)),((.limb 3 4),(.lit 0)),((.limb 3 5),(.lit 0)),((.limb 4 0),(.lit 0)),((.limb 4 1),(.lit 0)),((.limb 4 2),(.lit 0)),((.limb 4 3),(.lit 0)),((.limb 4 4),(.lit 0)),((.limb 4 5),(.lit 0)),((.var 5),(.lit 0))])
 (.split 12
 (.req 1 [.var 0,.var 6,.var 7,.var 8]
 (.lett 13 .bit (.app 1 0 [.var 0,.var 6,.var 7,.var 8])
 (.ret [.var 13])))
 (.ret [.lit 0])))
 (.ret [.lit 0])))))))
theorem law_sigChk (f1 f2 f:FuncId) (e:Nat->Int) (hk:kkHas [.int .i64,.num,.num,.num,.num,.bit,.int .u64,.int .u64,.bit] [e 0,e 1,e 2,e 3,e 4,e 5,e 6,e 7,e 8]):tSigChk2.says [kInG2 f1,kLIn2 f2] ⟨fun ys=>ys=(kSigChk f).sem [e 0,e 1,e 2,e 3,e 4,e 5,e 6,e 7,e 8],[]⟩ e:=by
 obtain ⟨_,u1,u2,u3,u4,_⟩:=hk
 show tSigChk2.says _ ⟨fun ys=>ys=[bj (sigOk (e 0) (e 1) (e 2) (e 3) (e 4) (e 5) (e 6) (e 7) (e 8))],[]⟩ e
 intro a9 _
 have b9:=c_eq a9
 simp only [ev_var,ev_lit] at b9
 refine ⟨fun h9=>?_,fun h9=>?_⟩
 ·have e0:e 0=0:=b_yes b9 h9
  intro a10 _
  have b10:=c_l1 a10
  refine ⟨fun h10=>⟨trivial,fun a11 _=>?_⟩,fun h10=>?_⟩
  ·have v11:e 11=bj (inG2 (e 1) (e 2) (e 3) (e 4) (e 5)):=a11
   show [e 11]=_
   rw [v11]
   exact congrArg (fun x=>[x]) (bj_iff ⟨fun h=>.inl ⟨e0,b_yes b10 h10,h⟩,fun h=>(sigOk_0 h e0).2⟩)
  ·show [(0:Int)]=_
   rw [bj_f (fun h=>b_no b10 h10 (sigOk_0 h e0).1)]
 ·have n0:¬ e 0=0:=b_no b9 h9
  have key:∀ (v:Int),isL (e 0)->v=bj (isL (e 0)/\inP (pL (e 0)) (rOf (e 0)) (e 6) (e 7) (e 8))->((e 1=0/\e 2=0)/\(e 3=0/\e 4=0)/\e 5=0)->[v]=[bj (sigOk (e 0) (e 1) (e 2) (e 3) (e 4) (e 5) (e 6) (e 7) (e 8))]:=fun v hl hv hz=>by
   rw [hv]
   exact congrArg (fun x=>[x]) (bj_iff ⟨fun h=>.inr ⟨hl,hz,h.2⟩,fun h=>⟨hl,(sigOk_L h n0).2.2⟩⟩)
  have none:¬ ((e 1=0/\e 2=0)/\(e 3=0/\e 4=0)/\e 5=0)->[(0:Int)]=[bj (sigOk (e 0) (e 1) (e 2) (e 3) (e 4) (e 5) (e 6) (e 7) (e 8))]:=fun hz=>by
   rw [bj_f (fun h=>hz (sigOk_L h n0).2.1)]
  intro a10 _
  have b10:=c_eq a10
  simp only [ev_var,ev_lit] at b10
  refine ⟨fun h10=>?_,fun h10=>?_⟩
  ·intro a11 _
   have b11:=c_p2 a11 u1 u2 u3 u4
   exact ⟨fun h11=>⟨trivial,fun a12 _=>key _ (.inl (b_yes b10 h10)) a12 (b_yes b11 h11)⟩,fun h11=>none (b_no b11 h11)⟩
  ·intro a11 _
   have b11:=c_eq a11
   simp only [ev_var,ev_lit] at b11
   refine ⟨fun h11=>?_,fun h11=>?_⟩
   ·intro a12 _
    have b12:=c_p2 a12 u1 u2 u3 u4
    exact ⟨fun h12=>⟨trivial,fun a13 _=>key _ (.inr (b_yes b11 h11)) a13 (b_yes b12 h12)⟩,fun h12=>none (b_no b12 h12)⟩
   ·show [(0:Int)]=_
    rw [bj_f (fun h=>by
     rcases (sigOk_L h n0).1 with h1 | h1
     ·exact b_no b10 h10 h1
     ·exact b_no b11 h11 h1)]
theorem lowV2_l (P:J E2):∃ a b c d z,lowV2 P=[a,b,c,d,z]:=⟨_,_,_,_,_,lowV2_low P⟩
def tSigMul:Tree:=(.req 0 [.var 0,.var 1,.var 2,.var 3,.var 4,.var 5,.var 6,.var 7,.var 8]
(.lett 10 .bit (.app 0 0 [.var 0,.var 1,.var 2,.var 3,.var 4,.var 5,.var 6,.var 7,.var 8])
(.lett 11 .bit (.not (.var 10))
(.split 11
(.ret [.lit 0,.lit 0,.lit 0,.lit 0,.lit 0,.lit 0,.lit 0,.lit 0,.lit 0,.lit 5])
(.lett 540 .bit (.cmp .neq (.var 0) (.var 0))
(.split 540
 (.ret [.lit 0,.lit 0,.lit 0,.lit 0,.lit 0,.lit 0,.lit 0,.lit 0,.lit 0,.lit 2])
 (.req 1 [.var 0]
 (.lett 876 .num (.app 1 0 [.var 0])
 (.req 2 [.var 9,.var 876]
 (.lett 924 (.int .i64) (.app 2 0 [.var 9,.var 876])
 (.lett 972 .bit (.cmp .geq (.var 924) (.lit 0))
 (.split 972
 (.ret [.lit 0,.lit 0,.lit 0,.lit 0,.lit 0,.lit 0,.lit 0,.lit 0,.lit 0,.lit 2])
 (.lett 1068 .bit (.cmp .eql (.var 0) (.lit 0))
 (.split 1068
 (.req 3 [.var 1,.var 2,.var 3,.var 4,.var 5,.var 9]
 (.lett 1069 .num (.app 3 0 [.var 1,.var 2,.var 3,.var 4,.var 5,.var 9])
 (.lett 1070 .num (.app 3 1 [.var 1,.var 2,.var 3,.var 4,.var 5,.var 9])
 (.lett 1071 .num (.app 3 2 [.var 1,.var 2,.var 3,.var 4,.var 5,.var 9])
 (.lett 1072 .num (.app 3 3 [.var 1,.var 2,.var 3,.var 4,.var 5,.var 9])
 (.lett 1073 .bit (.app 3 4 [.var 1,.var 2,.var 3,.var 4,.var 5,.var 9])
 (.lett 1074 (.int .i64) (.app 3 5 [.var 1,.var 2,.var 3,.var 4,.var 5,.var 9])
 (.ret [.var 0,.var 1069,.var 1070,.var 1071,.var 1072,.var 1073,.lit 0,.lit 0,.lit 0,.lit 0]))))))))
 (.req 4 [.var 0,.var 6,.var 7,.var 8,.limb 9 0]
 (.lett 1069 (.int .u64) (.app 4 0 [.var 0,.var 6,.var 7,.var 8,.limb 9 0])
 (.lett 1070 (.int .u64) (.app 4 1 [.var 0,.var 6,.var 7,.var 8,.limb 9 0])
 (.lett 1071 .bit (.app 4 2 [.var 0,.var 6,.var 7,.var 8,.limb 9 0])
 (.lett 1072 (.int .i64) (.app 4 3 [.var 0,.var 6,.var 7,.var 8,.limb 9 0])
 (.ret [.var 0,.lit 0,.lit 0,.lit 0,.lit 0,.lit 0,.var 1069,.var 1070,.var 1071,.lit 0]))))))))))))))))))))
theorem law_sigMul (f1 f2 f3 f4 f5 f:FuncId) (e:Nat->Int) (hk:kkHas [.int .i64,.num,.num,.num,.num,.bit,.int .u64,.int .u64,.bit,.num] [e 0,e 1,e 2,e 3,e 4,e 5,e 6,e 7,e 8,e 9]):tSigMul.says [kSigChk f1,kOrder f2,kWCmp f3,kMul2 f4,kLMul2 f5] ⟨fun ys=>ys=(kSigMul f).sem [e 0,e 1,e 2,e 3,e 4,e 5,e 6,e 7,e 8,e 9],[]⟩ e:=by
 have h9:0<=e 9:=hk.2.2.2.2.2.2.2.2.2.1.1
 show tSigMul.says _ ⟨fun ys=>ys=sigMul (e 0) (e 1) (e 2) (e 3) (e 4) (e 5) (e 6) (e 7) (e 8) (e 9),[]⟩ e
 unfold sigMul
 refine ⟨trivial,fun a10 _ a11 _=>?_⟩
 have v10:e 10=bj (sigOk (e 0) (e 1) (e 2) (e 3) (e 4) (e 5) (e 6) (e 7) (e 8)):=a10
 have b11:=c_not a11
 simp only [ev_var] at b11
 refine ⟨fun h=>?_,fun h=>?_⟩
 ·rw [if_pos (bj_z v10 (b_yes b11 h))];rfl
 have hok:=bj_nz v10 (b_no b11 h)
 have hs:=sigOk_s hok
 rw [if_neg (fun hc=>hc hok)]
 intro a540 _
 have b540:=c_ne a540
 simp only [ev_var] at b540
 refine ⟨fun h=>by
  rcases b540 with ⟨_,k⟩ | ⟨k,_⟩
  ·exact absurd trivial k
  ·exact absurd k h,fun _=>⟨hs,fun a876 _=>⟨trivial,fun a924 _ a972 _=>?_⟩⟩⟩
 have v876:e 876=rOf (e 0):=a876
 have v924:e 924<0↔e 9<e 876:=cmpV_lt a924
 have b972:=c_ge a972
 simp only [ev_var,ev_lit] at b972
 refine ⟨fun h=>?_,fun h=>?_⟩
 ·have hn:¬ e 9<rOf (e 0):=by rw [<- v876,<- v924];omega
  rw [if_pos hn];rfl
 have hn:e 9<rOf (e 0):=by rw [<- v876,<- v924];omega
 rw [if_neg (fun hc=>hc hn)]
 intro a1068 _
 have b1068:=c_eq a1068
 simp only [ev_var,ev_lit] at b1068
 refine ⟨fun h=>?_,fun h=>?_⟩
 ·have e0:e 0=0:=b_yes b1068 h
  have hg:=(sigOk_0 hok e0).2.1
  refine ⟨hg,fun a1 _ a2 _ a3 _ a4 _ a5 _ a6 _=>?_⟩
  rw [if_pos e0]
  show [e 0,e 1069,e 1070,e 1071,e 1072,e 1073,0,0,0,0]=_
  obtain ⟨A,B,C,D,Z,hl⟩:=lowV2_l (tmJ R2 (rsV2 (e 1) (e 2) (e 3) (e 4) (e 5)) 384 (e 9).toNat)
  have sm:(kMul2 f4).sem [e 1,e 2,e 3,e 4,e 5,e 9]=[A,B,C,D,Z,0]:=by
   show lowV2 (tmJ R2 (rsV2 (e 1) (e 2) (e 3) (e 4) (e 5)) 384 (e 9).toNat)++[0]=_
   rw [hl];rfl
  rw [show e 1069=((kMul2 f4).sem [e 1,e 2,e 3,e 4,e 5,e 9]).getD 0 0 from a1,show e 1070=((kMul2 f4).sem [e 1,e 2,e 3,e 4,e 5,e 9]).getD 1 0 from a2,show e 1071=((kMul2 f4).sem [e 1,e 2,e 3,e 4,e 5,e 9]).getD 2 0 from a3,show e 1072=((kMul2 f4).sem [e 1,e 2,e 3,e 4,e 5,e 9]).getD 3 0 from a4,show e 1073=((kMul2 f4).sem [e 1,e 2,e 3,e 4,e 5,e 9]).getD 4 0 from a5,sm,hl,e0];rfl
 ·have n0:¬ e 0=0:=b_no b1068 h
  obtain ⟨hl,_,hin⟩:=sigOk_L hok n0
  refine ⟨⟨hl,hin.1⟩,fun a1 _ a2 _ a3 _ a4 _=>?_⟩
  rw [if_neg n0]
  show [e 0,0,0,0,0,0,e 1069,e 1070,e 1071,0]=_
  have sm:(kLMul2 f5).sem [e 0,e 6,e 7,e 8,lim (e 9) 0]=(mulP (pL (e 0)) ⟨e 6,e 7,e 8⟩ 64 (e 9).toNat).l++[0]:=by
   show (mulP (pL (e 0)) ⟨e 6,e 7,e 8⟩ 64 (lim (e 9) 0).toNat).l++[0]=_
   rw [lim0 h9 (by have:=rOf_sm64 hl;omega)]
  rw [show e 1069=((kLMul2 f5).sem [e 0,e 6,e 7,e 8,lim (e 9) 0]).getD 0 0 from a1,show e 1070=((kLMul2 f5).sem [e 0,e 6,e 7,e 8,lim (e 9) 0]).getD 1 0 from a2,show e 1071=((kLMul2 f5).sem [e 0,e 6,e 7,e 8,lim (e 9) 0]).getD 2 0 from a3,sm];rfl
def tSigAdd:Tree:=(.req 0 [.var 0,.var 1,.var 2,.var 3,.var 4,.var 5,.var 6,.var 7,.var 8]
(.lett 18 .bit (.app 0 0 [.var 0,.var 1,.var 2,.var 3,.var 4,.var 5,.var 6,.var 7,.var 8])
(.lett 19 .bit (.not (.var 18))
(.split 19
(.ret [.lit 0,.lit 0,.lit 0,.lit 0,.lit 0,.lit 0,.lit 0,.lit 0,.lit 0,.lit 5])
(.req 0 [.var 9,.var 10,.var 11,.var 12,.var 13,.var 14,.var 15,.var 16,.var 17]
(.lett 20 .bit (.app 0 0 [.var 9,.var 10,.var 11,.var 12,.var 13,.var 14,.var 15,.var 16,.var 17])
(.lett 21 .bit (.not (.var 20))
(.split 21
 (.ret [.lit 0,.lit 0,.lit 0,.lit 0,.lit 0,.lit 0,.lit 0,.lit 0,.lit 0,.lit 5])
 (.lett 550 .bit (.cmp .neq (.var 0) (.var 9))
 (.split 550
 (.ret [.lit 0,.lit 0,.lit 0,.lit 0,.lit 0,.lit 0,.lit 0,.lit 0,.lit 0,.lit 2])
 (.req 1 [.var 0]
 (.lett 886 .num (.app 1 0 [.var 0])
 (.req 2 [.lit 0,.var 886]
 (.lett 934 (.int .i64) (.app 2 0 [.lit 0,.var 886])
 (.lett 982 .bit (.cmp .geq (.var 934) (.lit 0))
 (.split 982
 (.ret [.lit 0,.lit 0,.lit 0,.lit 0,.lit 0,.lit 0,.lit 0,.lit 0,.lit 0,.lit 2])
 (.lett 1078 .bit (.cmp .eql (.var 0) (.lit 0))
 (.split 1078
 (.req 3 [.var 1,.var 2,.var 3,.var 4,.var 5,.var 10,.var 11,.var 12,.var 13,.var 14]
 (.lett 1079 .num (.app 3 0 [.var 1,.var 2,.var 3,.var 4,.var 5,.var 10,.var 11,.var 12,.var 13,.var 14])
 (.lett 1080 .num (.app 3 1 [.var 1,.var 2,.var 3,.var 4,.var 5,.var 10,.var 11,.var 12,.var 13,.var 14])
 (.lett 1081 .num (.app 3 2 [.var 1,.var 2,.var 3,.var 4,.var 5,.var 10,.var 11,.var 12,.var 13,.var 14])
 (.lett 1082 .num (.app 3 3 [.var 1,.var 2,.var 3,.var 4,.var 5,.var 10,.var 11,.var 12,.var 13,.var 14])
 (.lett 1083 .bit (.app 3 4 [.var 1,.var 2,.var 3,.var 4,.var 5,.var 10,.var 11,.var 12,.var 13,.var 14])
 (.lett 1084 (.int .i64) (.app 3 5 [.var 1,.var 2,.var 3,.var 4,.var 5,.var 10,.var 11,.var 12,.var 13,.var 14])
 (.ret [.var 0,.var 1079,.var 1080,.var 1081,.var 1082,.var 1083,.lit 0,.lit 0,.lit 0,.lit 0]))))))))
 (.req 4 [.var 0,.var 6,.var 7,.var 8,.var 15,.var 16,.var 17]
 (.lett 1079 (.int .u64) (.app 4 0 [.var 0,.var 6,.var 7,.var 8,.var 15,.var 16,.var 17])
 (.lett 1080 (.int .u64) (.app 4 1 [.var 0,.var 6,.var 7,.var 8,.var 15,.var 16,.var 17])
 (.lett 1081 .bit (.app 4 2 [.var 0,.var 6,.var 7,.var 8,.var 15,.var 16,.var 17])
 (.lett 1082 (.int .i64) (.app 4 3 [.var 0,.var 6,.var 7,.var 8,.var 15,.var 16,.var 17])
 (.ret [.var 0,.lit 0,.lit 0,.lit 0,.lit 0,.lit 0,.var 1079,.var 1080,.var 1081,.lit 0]))))))))))))))))))))))))
theorem law_sigAdd (f1 f2 f3 f4 f5 f:FuncId) (e:Nat->Int):tSigAdd.says [kSigChk f1,kOrder f2,kWCmp f3,kAdd2 f4,kLAdd2 f5] ⟨fun ys=>ys=(kSigAdd f).sem [e 0,e 1,e 2,e 3,e 4,e 5,e 6,e 7,e 8,e 9,e 10,e 11,e 12,e 13,e 14,e 15,e 16,e 17],[]⟩ e:=by
 show tSigAdd.says _ ⟨fun ys=>ys=sigAdd (e 0) (e 1) (e 2) (e 3) (e 4) (e 5) (e 6) (e 7) (e 8) (e 9) (e 10) (e 11) (e 12) (e 13) (e 14) (e 15) (e 16) (e 17),[]⟩ e
 unfold sigAdd
 refine ⟨trivial,fun a18 _ a19 _=>?_⟩
 have v18:e 18=bj (sigOk (e 0) (e 1) (e 2) (e 3) (e 4) (e 5) (e 6) (e 7) (e 8)):=a18
 have b19:=c_not a19
 simp only [ev_var] at b19
 refine ⟨fun h=>?_,fun h=>?_⟩
 ·rw [if_pos (.inl (bj_z v18 (b_yes b19 h)))];rfl
 have hok:=bj_nz v18 (b_no b19 h)
 refine ⟨trivial,fun a20 _ a21 _=>?_⟩
 have v20:e 20=bj (sigOk (e 9) (e 10) (e 11) (e 12) (e 13) (e 14) (e 15) (e 16) (e 17)):=a20
 have b21:=c_not a21
 simp only [ev_var] at b21
 refine ⟨fun h=>?_,fun h=>?_⟩
 ·rw [if_pos (.inr (bj_z v20 (b_yes b21 h)))];rfl
 have hok':=bj_nz v20 (b_no b21 h)
 have hs:=sigOk_s hok
 rw [if_neg (fun hc=>by rcases hc with hc | hc;exact hc hok;exact hc hok')]
 intro a550 _
 have b550:=c_ne a550
 simp only [ev_var] at b550
 refine ⟨fun h=>?_,fun h=>?_⟩
 ·rw [if_pos (show e 0≠e 9 by omega)];rfl
 have hss:e 0=e 9:=by omega
 rw [if_neg (fun hc=>hc hss)]
 refine ⟨hs,fun a886 _=>⟨trivial,fun a934 _ a982 _=>?_⟩⟩
 have v886:e 886=rOf (e 0):=a886
 have v934:e 934<0↔0<e 886:=cmpV_lt a934
 have b982:=c_ge a982
 simp only [ev_var,ev_lit] at b982
 have hr0:=rOf_pos0 (e 0)
 refine ⟨fun h=>by omega,fun _=>?_⟩
 intro a1078 _
 have b1078:=c_eq a1078
 simp only [ev_var,ev_lit] at b1078
 refine ⟨fun h=>?_,fun h=>?_⟩
 ·have e0:e 0=0:=b_yes b1078 h
  have hg:=(sigOk_0 hok e0).2.1
  have hg':=(sigOk_0 hok' (by omega)).2.1
  refine ⟨⟨hg,hg'⟩,fun a1 _ a2 _ a3 _ a4 _ a5 _ a6 _=>?_⟩
  rw [if_pos e0]
  show [e 0,e 1079,e 1080,e 1081,e 1082,e 1083,0,0,0,0]=_
  obtain ⟨A,B,C,D,Z,hl⟩:=lowV2_l (sumJ R2 (rsV2 (e 1) (e 2) (e 3) (e 4) (e 5)) (rsV2 (e 10) (e 11) (e 12) (e 13) (e 14)))
  have sm:(kAdd2 f4).sem [e 1,e 2,e 3,e 4,e 5,e 10,e 11,e 12,e 13,e 14]=[A,B,C,D,Z,0]:=by
   show lowV2 (sumJ R2 (rsV2 (e 1) (e 2) (e 3) (e 4) (e 5)) (rsV2 (e 10) (e 11) (e 12) (e 13) (e 14)))++[0]=_
   rw [hl];rfl
  rw [show e 1079=((kAdd2 f4).sem [e 1,e 2,e 3,e 4,e 5,e 10,e 11,e 12,e 13,e 14]).getD 0 0 from a1,show e 1080=((kAdd2 f4).sem [e 1,e 2,e 3,e 4,e 5,e 10,e 11,e 12,e 13,e 14]).getD 1 0 from a2,show e 1081=((kAdd2 f4).sem [e 1,e 2,e 3,e 4,e 5,e 10,e 11,e 12,e 13,e 14]).getD 2 0 from a3,show e 1082=((kAdd2 f4).sem [e 1,e 2,e 3,e 4,e 5,e 10,e 11,e 12,e 13,e 14]).getD 3 0 from a4,show e 1083=((kAdd2 f4).sem [e 1,e 2,e 3,e 4,e 5,e 10,e 11,e 12,e 13,e 14]).getD 4 0 from a5,sm,hl,e0];rfl
 ·have n0:¬ e 0=0:=b_no b1078 h
  obtain ⟨hl,_,hin⟩:=sigOk_L hok n0
  have hin':=(sigOk_L hok' (by omega)).2.2
  rw [<- hss] at hin'
  refine ⟨⟨hl,hin.1,hin'.1⟩,fun a1 _ a2 _ a3 _ a4 _=>?_⟩
  rw [if_neg n0]
  show [e 0,0,0,0,0,0,e 1079,e 1080,e 1081,0]=_
  rw [show e 1079=_ from a1,show e 1080=_ from a2,show e 1081=_ from a3];rfl
def sigP (r:List Int):List Int:=if r.getD 5 0≠0 then [0,0,0,0,0,0,0,0,0,r.getD 5 0] else [0,r.getD 0 0,r.getD 1 0,r.getD 2 0,r.getD 3 0,r.getD 4 0,0,0,0,0]
def sigL (s:Int) (r:List Int):List Int:=if r.getD 3 0≠0 then [0,0,0,0,0,0,0,0,0,r.getD 3 0] else [s,0,0,0,0,0,r.getD 0 0,r.getD 1 0,r.getD 2 0,0]
noncomputable def readSig (s:Int) (b:List Int):List Int :=
 if s=0 then sigP (read2V b) else if s=1∨s=2 then sigL s (readLV (pL s) (rOf s) b) else [0,0,0,0,0,0,0,0,0,2]
def sigB (s a b c d z x y w:Int):List Int:=if s=0 then bytes2V a b c d z else bytesL x y w
noncomputable def kReadSig (f:FuncId):K:={fn:=f,ext:=false,ins:=[iI,.lst (.int .u8)],outs:=[.agg lsSg,oI],pre:=fun _=>True,sem:=fun | [s,l]=>readSig s (dec l) | _=>[] }
noncomputable def kReadSigL (f:FuncId):K:={fn:=f,ext:=false,ins:=[iI,.lent (.int .u8)],outs:=[.agg lsSg,oI],pre:=fun _=>True,sem:=fun | [s,l,n]=>readSig s ((dec l).take n.toNat) | _=>[] }
noncomputable def kRSAdd (f:FuncId):K:={fn:=f,ext:=false,ins:=[.agg lsSg,.agg lsSg],outs:=[.agg lsSg],pre:=fun | [s,a,b,c,d,z,x,y,w,s',a',b',c',d',z',x',y',w']=>sigOk s a b c d z x y w/\sigOk s' a' b' c' d' z' x' y' w'/\s=s' | _=>False,sem:=fun | [s,a,b,c,d,z,x,y,w,s',a',b',c',d',z',x',y',w']=>(sigAdd s a b c d z x y w s' a' b' c' d' z' x' y' w').take 9 | _=>[] }
noncomputable def kRSMul (f:FuncId):K:={fn:=f,ext:=false,ins:=[.agg lsSg,iN],outs:=[.agg lsSg],pre:=fun | [s,a,b,c,d,z,x,y,w,n]=>sigOk s a b c d z x y w/\n<rOf s | _=>False,sem:=fun | [s,a,b,c,d,z,x,y,w,n]=>(sigMul s a b c d z x y w n).take 9 | _=>[] }
def kRSBytes (te:TypeId) (f:FuncId):K:={fn:=f,ext:=false,ins:=[.agg lsSg],outs:=[.lst te (.int .u8)],pre:=fun | [s,_,b,_,_,_,_,_,_]=>s=0->b<bP | _=>False,sem:=fun | [s,a,b,c,d,z,x,y,w]=>[enc (sigB s a b c d z x y w)] | _=>[] }
theorem readSig_0 {s:Int} (h:s=0) (b:List Int):readSig s b=sigP (read2V b):=if_pos h
theorem readSig_L {s:Int} (h:isL s) (b:List Int):readSig s b=sigL s (readLV (pL s) (rOf s) b):=by
 unfold readSig
 rw [if_neg (by rcases h with h | h <;> omega),if_pos (show s=1∨s=2 from h)]
theorem readSig_n {s:Int} (h0:¬ s=0) (h:¬ isL s) (b:List Int):readSig s b=[0,0,0,0,0,0,0,0,0,2]:=by
 unfold readSig
 rw [if_neg h0,if_neg (show ¬ (s=1∨s=2) from h)]
theorem endQ_g {T:List K} {e:Nat->Int} {f:FuncId} (g:Nat) (h0:T[g]?=some (kRead2 f)) (w n:Nat) (v:Nat) (hv:e v=0) {b:List Int} (hb:dec (e w)=b) :
  (Tree.req g [.var w] (.lett n .num (.app g 0 [.var w]) (.lett (n+1) .num (.app g 1 [.var w]) (.lett (n+2) .num (.app g 2 [.var w]) (.lett (n+3) .num (.app g 3 [.var w]) (.lett (n+4) .bit (.app g 4 [.var w]) (.lett (n+5) (.int .i64) (.app g 5 [.var w]) (.lett (n+6) .bit (.cmp .neq (.var (n+5)) (.lit 0)) (.split (n+6) (.ret [.lit 0,.lit 0,.lit 0,.lit 0,.lit 0,.lit 0,.lit 0,.lit 0,.lit 0,.var (n+5)]) (.ret [.var v,.var n,.var (n+1),.var (n+2),.var (n+3),.var (n+4),.lit 0,.lit 0,.lit 0,.lit 0])))))))))).says T ⟨fun ys=>ys=sigP (read2V b),[]⟩ e:=by
 refine ⟨by rw [h0];trivial,fun a0 _ a1 _ a2 _ a3 _ a4 _ a5 _ a6 _=>?_⟩
 simp only [D.ev,h0] at a0 a1 a2 a3 a4 a5
 have v0:e n=(read2V b).getD 0 0:=by rw [<- hb];exact a0
 have v1:e (n+1)=(read2V b).getD 1 0:=by rw [<- hb];exact a1
 have v2:e (n+2)=(read2V b).getD 2 0:=by rw [<- hb];exact a2
 have v3:e (n+3)=(read2V b).getD 3 0:=by rw [<- hb];exact a3
 have v4:e (n+4)=(read2V b).getD 4 0:=by rw [<- hb];exact a4
 have v5:e (n+5)=(read2V b).getD 5 0:=by rw [<- hb];exact a5
 have b6:=c_ne a6
 simp only [ev_var,ev_lit] at b6
 unfold sigP
 rw [<- v0,<- v1,<- v2,<- v3,<- v4,<- v5]
 refine ⟨fun h=>?_,fun h=>?_⟩
 ·rw [if_pos (show e (n+5)≠0 by omega)];rfl
 ·rw [if_neg (fun hc=>hc (show e (n+5)=0 by omega))]
  show [e v,e n,e (n+1),e (n+2),e (n+3),e (n+4),0,0,0,0]=_
  rw [hv]
theorem endM_at {T:List K} {e:Nat->Int} {f:FuncId} (h0:T[1]?=some (kLRead f)) (w n:Nat) (hl:isL (e 0)) {b:List Int} (hb:dec (e w)=b) :
  (Tree.req 1 [.var 0,.var w] (.lett n (.int .u64) (.app 1 0 [.var 0,.var w]) (.lett (n+1) (.int .u64) (.app 1 1 [.var 0,.var w]) (.lett (n+2) .bit (.app 1 2 [.var 0,.var w]) (.lett (n+3) (.int .i64) (.app 1 3 [.var 0,.var w]) (.lett (n+4) .bit (.cmp .neq (.var (n+3)) (.lit 0)) (.split (n+4) (.ret [.lit 0,.lit 0,.lit 0,.lit 0,.lit 0,.lit 0,.lit 0,.lit 0,.lit 0,.var (n+3)]) (.ret [.var 0,.lit 0,.lit 0,.lit 0,.lit 0,.lit 0,.var n,.var (n+1),.var (n+2),.lit 0])))))))).says T ⟨fun ys=>ys=sigL (e 0) (readLV (pL (e 0)) (rOf (e 0)) b),[]⟩ e:=by
 refine ⟨by rw [h0];exact hl,fun a0 _ a1 _ a2 _ a3 _ a4 _=>?_⟩
 simp only [D.ev,h0] at a0 a1 a2 a3
 have v0:e n=(readLV (pL (e 0)) (rOf (e 0)) b).getD 0 0:=by rw [<- hb];exact a0
 have v1:e (n+1)=(readLV (pL (e 0)) (rOf (e 0)) b).getD 1 0:=by rw [<- hb];exact a1
 have v2:e (n+2)=(readLV (pL (e 0)) (rOf (e 0)) b).getD 2 0:=by rw [<- hb];exact a2
 have v3:e (n+3)=(readLV (pL (e 0)) (rOf (e 0)) b).getD 3 0:=by rw [<- hb];exact a3
 have b4:=c_ne a4
 simp only [ev_var,ev_lit] at b4
 unfold sigL
 rw [<- v0,<- v1,<- v2,<- v3]
 refine ⟨fun h=>?_,fun h=>?_⟩
 ·rw [if_pos (show e (n+3)≠0 by omega)];rfl
 ·rw [if_neg (fun hc=>hc (show e (n+3)=0 by omega))];rfl
def tReadSigL:Tree:=(.lett 3 .bit (.cmp .eql (.var 0) (.lit 0))
(.split 3
(.lett 4 .bit (.cmp .eql (.var 0) (.lit 0))
(.split 4
 (.lett 5 (.lst (.int .u8)) (.lsub (.var 1) (.lit 0) (.var 2))
 (.req 0 [.var 5]
 (.lett 6 .num (.app 0 0 [.var 5])
 (.lett 7 .num (.app 0 1 [.var 5])
 (.lett 8 .num (.app 0 2 [.var 5])
 (.lett 9 .num (.app 0 3 [.var 5])
 (.lett 10 .bit (.app 0 4 [.var 5])
 (.lett 11 (.int .i64) (.app 0 5 [.var 5])
 (.lett 12 .bit (.cmp .neq (.var 11) (.lit 0))
 (.split 12
 (.ret [.lit 0,.lit 0,.lit 0,.lit 0,.lit 0,.lit 0,.lit 0,.lit 0,.lit 0,.var 11])
 (.ret [.var 0,.var 6,.var 7,.var 8,.var 9,.var 10,.lit 0,.lit 0,.lit 0,.lit 0])))))))))))
 (.lett 5 (.lst (.int .u8)) (.lsub (.var 1) (.lit 0) (.var 2))
 (.req 1 [.var 0,.var 5]
 (.lett 6 (.int .u64) (.app 1 0 [.var 0,.var 5])
 (.lett 7 (.int .u64) (.app 1 1 [.var 0,.var 5])
 (.lett 8 .bit (.app 1 2 [.var 0,.var 5])
 (.lett 9 (.int .i64) (.app 1 3 [.var 0,.var 5])
 (.lett 10 .bit (.cmp .neq (.var 9) (.lit 0))
 (.split 10
 (.ret [.lit 0,.lit 0,.lit 0,.lit 0,.lit 0,.lit 0,.lit 0,.lit 0,.lit 0,.var 9])
 (.ret [.var 0,.lit 0,.lit 0,.lit 0,.lit 0,.lit 0,.var 6,.var 7,.var 8,.lit 0])))))))))))
(.lett 4 .bit (.cmp .eql (.var 0) (.lit 1))
(.split 4
 (.lett 5 .bit (.cmp .eql (.var 0) (.lit 0))
 (.split 5
 (.lett 6 (.lst (.int .u8)) (.lsub (.var 1) (.lit 0) (.var 2))
 (.req 0 [.var 6]
 (.lett 7 .num (.app 0 0 [.var 6])
 (.lett 8 .num (.app 0 1 [.var 6])
 (.lett 9 .num (.app 0 2 [.var 6])
 (.lett 10 .num (.app 0 3 [.var 6])
 (.lett 11 .bit (.app 0 4 [.var 6])
 (.lett 12 (.int .i64) (.app 0 5 [.var 6])
 (.lett 13 .bit (.cmp .neq (.var 12) (.lit 0))
 (.split 13
 (.ret [.lit 0,.lit 0,.lit 0,.lit 0,.lit 0,.lit 0,.lit 0,.lit 0,.lit 0,.var 12])
 (.ret [.var 0,.var 7,.var 8,.var 9,.var 10,.var 11,.lit 0,.lit 0,.lit 0,.lit 0])))))))))))
 (.lett 6 (.lst (.int .u8)) (.lsub (.var 1) (.lit 0) (.var 2))
 (.req 1 [.var 0,.var 6]
 (.lett 7 (.int .u64) (.app 1 0 [.var 0,.var 6])
 (.lett 8 (.int .u64) (.app 1 1 [.var 0,.var 6])
 (.lett 9 .bit (.app 1 2 [.var 0,.var 6])
 (.lett 10 (.int .i64) (.app 1 3 [.var 0,.var 6])
 (.lett 11 .bit (.cmp .neq (.var 10) (.lit 0))
 (.split 11
 (.ret [.lit 0,.lit 0,.lit 0,.lit 0,.lit 0,.lit 0,.lit 0,.lit 0,.lit 0,.var 10])
 (.ret [.var 0,.lit 0,.lit 0,.lit 0,.lit 0,.lit 0,.var 7,.var 8,.var 9,.lit 0])))))))))))
 (.lett 5 .bit (.cmp .eql (.var 0) (.lit 2))
 (.lett 6 .bit (.not (.var 5))
 (.split 6
 (.ret [.lit 0,.lit 0,.lit 0,.lit 0,.lit 0,.lit 0,.lit 0,.lit 0,.lit 0,.lit 2])
 (.lett 7 .bit (.cmp .eql (.var 0) (.lit 0))
 (.split 7
 (.lett 8 (.lst (.int .u8)) (.lsub (.var 1) (.lit 0) (.var 2))
 (.req 0 [.var 8]
 (.lett 9 .num (.app 0 0 [.var 8])
 (.lett 10 .num (.app 0 1 [.var 8])
 (.lett 11 .num (.app 0 2 [.var 8])
 (.lett 12 .num (.app 0 3 [.var 8])
 (.lett 13 .bit (.app 0 4 [.var 8])
 (.lett 14 (.int .i64) (.app 0 5 [.var 8])
 (.lett 15 .bit (.cmp .neq (.var 14) (.lit 0))
 (.split 15
 (.ret [.lit 0,.lit 0,.lit 0,.lit 0,.lit 0,.lit 0,.lit 0,.lit 0,.lit 0,.var 14])
 (.ret [.var 0,.var 9,.var 10,.var 11,.var 12,.var 13,.lit 0,.lit 0,.lit 0,.lit 0])))))))))))
 (.lett 8 (.lst (.int .u8)) (.lsub (.var 1) (.lit 0) (.var 2))
 (.req 1 [.var 0,.var 8]
 (.lett 9 (.int .u64) (.app 1 0 [.var 0,.var 8])
 (.lett 10 (.int .u64) (.app 1 1 [.var 0,.var 8])
 (.lett 11 .bit (.app 1 2 [.var 0,.var 8])
 (.lett 12 (.int .i64) (.app 1 3 [.var 0,.var 8])
 (.lett 13 .bit (.cmp .neq (.var 12) (.lit 0))
 (.split 13
 (.ret [.lit 0,.lit 0,.lit 0,.lit 0,.lit 0,.lit 0,.lit 0,.lit 0,.lit 0,.var 12])
 (.ret [.var 0,.lit 0,.lit 0,.lit 0,.lit 0,.lit 0,.var 9,.var 10,.var 11,.lit 0]))))))))))))))))))
theorem law_readSigL (f1 f2 f:FuncId) (e:Nat->Int):tReadSigL.says [kRead2 f1,kLRead f2] ⟨fun ys=>ys=(kReadSigL f).sem [e 0,e 1,e 2],[]⟩ e:=by
 obtain ⟨b,hb⟩:∃ b,(dec (e 1)).take (e 2).toNat=b:=⟨_,rfl⟩
 show tReadSigL.says _ ⟨fun ys=>ys=readSig (e 0) ((dec (e 1)).take (e 2).toNat),[]⟩ e
 rw [hb]
 intro a2 _
 have b2:=c_eq a2
 simp only [ev_var,ev_lit] at b2
 refine ⟨fun h=>?_,fun h=>?_⟩
 ·have e0:e 0=0:=b_yes b2 h
  intro a3 _
  have b3:=c_eq a3
  simp only [ev_var,ev_lit] at b3
  refine ⟨fun _=>fun a5 _=>?_,fun h=>absurd e0 (b_no b3 h)⟩
  rw [readSig_0 e0]
  exact endQ_g (T:=[kRead2 f1,kLRead f2]) 0 rfl 5 6 0 e0 ((lsub_t a5).trans hb)
 have n0:=b_no b2 h
 intro a3 _
 have b3:=c_eq a3
 simp only [ev_var,ev_lit] at b3
 refine ⟨fun h=>?_,fun h=>?_⟩
 ·have e1:e 0=1:=b_yes b3 h
  intro a4 _
  have b4:=c_eq a4
  simp only [ev_var,ev_lit] at b4
  refine ⟨fun h=>absurd (b_yes b4 h) n0,fun _=>fun a6 _=>?_⟩
  rw [readSig_L (.inl e1)]
  exact endM_at (T:=[kRead2 f1,kLRead f2]) rfl 6 7 (.inl e1) ((lsub_t a6).trans hb)
 have n1:=b_no b3 h
 intro a4 _ a5 _
 have b4:=c_eq a4
 have b5:=c_not a5
 simp only [ev_var,ev_lit] at b4 b5
 refine ⟨fun h=>?_,fun h=>?_⟩
 ·have:¬ isL (e 0):=fun hc=>by
   have:=b_yes b5 h
   rcases hc with h1 | h1 <;> omega
  rw [readSig_n n0 this];rfl
 ·have e2:e 0=2:=by have:=b_no b5 h;omega
  intro a6 _
  have b6:=c_eq a6
  simp only [ev_var,ev_lit] at b6
  refine ⟨fun h=>absurd (b_yes b6 h) n0,fun _=>fun a8 _=>?_⟩
  rw [readSig_L (.inr e2)]
  exact endM_at (T:=[kRead2 f1,kLRead f2]) rfl 8 9 (.inr e2) ((lsub_t a8).trans hb)
def tRSigMay:Tree:=(.lett 9 .bit (.cmp .eql (.var 0) (.lit 0))
(.split 9
(.lett 10 .bit (.eqs [((.var 6),(.lit 0)),((.var 7),(.lit 0)),((.var 8),(.lit 0))])
(.split 10
 (.req 0 [.var 1,.var 2,.var 3,.var 4,.var 5]
 (.lett 11 .bit (.app 0 0 [.var 1,.var 2,.var 3,.var 4,.var 5])
 (.ret [.var 11])))
 (.ret [.lit 0])))
(.req 1 [.var 0]
(.lett 10 (.int .u64) (.app 1 0 [.var 0])
(.lett 11 (.int .u64) (.app 1 1 [.var 0])
(.lett 12 (.int .u64) (.app 1 2 [.var 0])
(.lett 13 (.int .u64) (.app 1 3 [.var 0])
(.lett 14 (.int .u64) (.app 1 4 [.var 0])
(.lett 15 .bit (.app 1 5 [.var 0])
(.lett 16 .bit (.app 1 6 [.var 0])
(.split 16
 (.lett 17 .bit (.eqs [((.limb 1 0),(.lit 0)),((.limb 1 1),(.lit 0)),((.limb 1 2),(.lit 0)),((.limb 1 3),(.lit 0)),((.limb 1 4),(.lit 0)),((.limb 1 5),(.lit 0)),((.limb 2 0),(.lit 0)),((.limb 2 1),(.lit 0)),((.limb 2 2),(.lit 0)),((.limb 2 3),(.lit 0)),((.limb 2 4),(.lit 0)),((.limb 2 5),(.lit 0)),((.limb 3 0),(.lit 0)),((.limb 3 1),(.lit 0)),((.limb 3 2),(.lit 0)),((.limb 3 3),(.lit 0)),((.limb 3 4),(.lit 0)),((.limb 3 5),(.lit 0)),((.limb 4 0),(.lit 0)),((.limb 4 1),(.lit 0)),((.limb 4 2),(.lit 0)),((.limb 4 3),(.lit 0)),((.limb 4 4),(.lit 0)),((.limb 4 5),(.lit 0)),((.var 5),(.lit 0))])
 (.split 17
 (.req 2 [.var 10,.var 11,.var 12,.var 13,.var 14,.var 15,.var 6,.var 7,.var 8]
 (.lett 18 .bit (.app 2 0 [.var 10,.var 11,.var 12,.var 13,.var 14,.var 15,.var 6,.var 7,.var 8])
 (.ret [.var 18])))
 (.ret [.lit 0])))
 (.ret [.lit 0]))))))))))))
theorem law_rSigMay (f1 f2 f3 f:FuncId) (e:Nat->Int) (hk:kkHas [.int .i64,.num,.num,.num,.num,.bit,.int .u64,.int .u64,.bit] [e 0,e 1,e 2,e 3,e 4,e 5,e 6,e 7,e 8]):tRSigMay.says [kInG2 f1,kLOf f2,kCIn f3] ⟨fun ys=>ys=(kSigChk f).sem [e 0,e 1,e 2,e 3,e 4,e 5,e 6,e 7,e 8],[]⟩ e:=by
 obtain ⟨_,u1,u2,u3,u4,_⟩:=hk
 show tRSigMay.says _ ⟨fun ys=>ys=[bj (sigOk (e 0) (e 1) (e 2) (e 3) (e 4) (e 5) (e 6) (e 7) (e 8))],[]⟩ e
 intro a9 _
 have b9:=c_eq a9
 simp only [ev_var,ev_lit] at b9
 refine ⟨fun h9=>?_,fun h9=>?_⟩
 ·have e0:e 0=0:=b_yes b9 h9
  intro a10 _
  have b10:=c_l1 a10
  refine ⟨fun h10=>⟨trivial,fun a11 _=>?_⟩,fun h10=>?_⟩
  ·have v11:e 11=bj (inG2 (e 1) (e 2) (e 3) (e 4) (e 5)):=a11
   show [e 11]=_
   rw [v11]
   exact congrArg (fun x=>[x]) (bj_iff ⟨fun h=>.inl ⟨e0,b_yes b10 h10,h⟩,fun h=>(sigOk_0 h e0).2⟩)
  ·show [(0:Int)]=_
   rw [bj_f (fun h=>b_no b10 h10 (sigOk_0 h e0).1)]
 ·have n0:¬ e 0=0:=b_no b9 h9
  refine ⟨trivial,fun a10 _ a11 _ a12 _ a13 _ a14 _ a15 _ a16 _=>?_⟩
  have v16:e 16=bj (isL (e 0)):=(show e 16=(cvL (e 0)).getD 6 0 from a16).trans (isL_6 _)
  refine ⟨fun h=>?_,fun h=>?_⟩
  ·have hl:=bj_nz v16 h
   have v10:e 10=pL (e 0):=by rw [show e 10=(cvL (e 0)).getD 0 0 from a10,cvL_t hl];rfl
   have v11:e 11=rOf (e 0):=by rw [show e 11=(cvL (e 0)).getD 1 0 from a11,cvL_t hl];rfl
   intro a17 _
   have b17:=c_p2 a17 u1 u2 u3 u4
   refine ⟨fun h=>⟨by show prP (e 10);rw [v10];exact pL_pr hl,fun a18 _=>?_⟩,fun h=>?_⟩
   ·have v18:e 18=bi (inP (e 10) (e 11) (e 6) (e 7) (e 8)):=a18
    have hz:=b_yes b17 h
    show [e 18]=_
    rw [v18,bi_bj,v10,v11]
    exact congrArg (fun x=>[x]) (bj_iff ⟨fun h=>.inr ⟨hl,hz,h⟩,fun h=>(sigOk_L h n0).2.2⟩)
   ·have hz:=b_no b17 h
    show [(0:Int)]=_
    rw [bj_f (fun h=>hz (sigOk_L h n0).2.1)]
  ·show [(0:Int)]=_
   rw [bj_f (fun hh=>bj_z v16 h (sigOk_L hh n0).1)]
theorem tk9_l (a:Pt) (s:Int):([s,0,0,0,0,0]++a.l++[0]).take 9=[s,0,0,0,0,0]++a.l:=rfl
theorem tk9_v (P:J E2):([(0:Int)]++lowV2 P++[0,0,0,0]).take 9=[0]++lowV2 P++[0,0,0]:=by
 obtain ⟨A,B,C,D,Z,hl⟩:=lowV2_l P
 rw [hl];rfl
theorem five_of {l:List Int} (P:J E2) (hl:l=lowV2 P) {a b c d z:Int} (h0:a=l.getD 0 0) (h1:b=l.getD 1 0) (h2:c=l.getD 2 0) (h3:d=l.getD 3 0) (h4:z=l.getD 4 0):[a,b,c,d,z]=lowV2 P:=by
 obtain ⟨A,B,C,D,Z,hp⟩:=lowV2_l P
 rw [h0,h1,h2,h3,h4,hl,hp];rfl
theorem mulV2_rs {a b c d z n:Int} (h:onV2 a b c d z) (hz:0<=z/\z<=1):mulV2 a b c d z n=lowV2 (tmJ R2 (rsV2 a b c d z) 384 n.toNat):=by
 unfold mulV2 rsV2
 by_cases h0:z=0
 ·rw [if_pos h0,if_pos h0]
 ·rw [if_neg h0,if_neg h0]
  obtain ⟨_,⟨ha,hb⟩,hc,hd⟩:=(onV2_1 h0).1 h
  have ho:=tm_o2 384 n.toNat
  have ho:(tmJ R2 (oJ R2) 384 n.toNat).z.1%bP=0/\(tmJ R2 (oJ R2) 384 n.toNat).z.2%bP=0:=by
   have h2:((tmJ R2 (oJ R2) 384 n.toNat).z.1%bP==0&&(tmJ R2 (oJ R2) 384 n.toNat).z.2%bP==0)=true:=ho
   rw [Bool.and_eq_true,beq_iff_eq,beq_iff_eq] at h2;exact h2
  unfold lowV2
  rw [if_pos ho,ha,hb,hc,hd,show z=1 by omega]
def tRSigAdd:Tree:=(.lett 18 .bit (.cmp .eql (.var 0) (.lit 0))
(.split 18
(.req 0 [.var 1,.var 2,.var 3,.var 4,.var 5,.var 10,.var 11,.var 12,.var 13,.var 14]
(.lett 307 .num (.app 0 0 [.var 1,.var 2,.var 3,.var 4,.var 5,.var 10,.var 11,.var 12,.var 13,.var 14])
(.lett 308 .num (.app 0 1 [.var 1,.var 2,.var 3,.var 4,.var 5,.var 10,.var 11,.var 12,.var 13,.var 14])
(.lett 309 .num (.app 0 2 [.var 1,.var 2,.var 3,.var 4,.var 5,.var 10,.var 11,.var 12,.var 13,.var 14])
(.lett 310 .num (.app 0 3 [.var 1,.var 2,.var 3,.var 4,.var 5,.var 10,.var 11,.var 12,.var 13,.var 14])
(.lett 311 .bit (.app 0 4 [.var 1,.var 2,.var 3,.var 4,.var 5,.var 10,.var 11,.var 12,.var 13,.var 14])
(.ret [.var 0,.var 307,.var 308,.var 309,.var 310,.var 311,.lit 0,.lit 0,.lit 0])))))))
(.req 1 [.var 0]
(.lett 19 (.int .u64) (.app 1 0 [.var 0])
(.lett 20 (.int .u64) (.app 1 1 [.var 0])
(.lett 21 (.int .u64) (.app 1 2 [.var 0])
(.lett 22 (.int .u64) (.app 1 3 [.var 0])
(.lett 23 (.int .u64) (.app 1 4 [.var 0])
(.lett 24 .bit (.app 1 5 [.var 0])
(.lett 25 .bit (.app 1 6 [.var 0])
(.req 2 [.var 19,.var 20,.var 21,.var 22,.var 23,.var 24,.var 6,.var 7,.var 8,.var 15,.var 16,.var 17]
(.lett 362 (.int .u64) (.app 2 0 [.var 19,.var 20,.var 21,.var 22,.var 23,.var 24,.var 6,.var 7,.var 8,.var 15,.var 16,.var 17])
(.lett 363 (.int .u64) (.app 2 1 [.var 19,.var 20,.var 21,.var 22,.var 23,.var 24,.var 6,.var 7,.var 8,.var 15,.var 16,.var 17])
(.lett 364 .bit (.app 2 2 [.var 19,.var 20,.var 21,.var 22,.var 23,.var 24,.var 6,.var 7,.var 8,.var 15,.var 16,.var 17])
(.ret [.var 0,.lit 0,.lit 0,.lit 0,.lit 0,.lit 0,.var 362,.var 363,.var 364])))))))))))))))
theorem law_rSigAdd (f1 f2 f3 f:FuncId) (e:Nat->Int) (hk:kkHas [.int .i64,.num,.num,.num,.num,.bit,.int .u64,.int .u64,.bit,.int .i64,.num,.num,.num,.num,.bit,.int .u64,.int .u64,.bit] [e 0,e 1,e 2,e 3,e 4,e 5,e 6,e 7,e 8,e 9,e 10,e 11,e 12,e 13,e 14,e 15,e 16,e 17]) (hp:(kRSAdd f).pre [e 0,e 1,e 2,e 3,e 4,e 5,e 6,e 7,e 8,e 9,e 10,e 11,e 12,e 13,e 14,e 15,e 16,e 17]):tRSigAdd.says [kRAddP2 f1,kLOf f2,kCAddP f3] ⟨fun ys=>ys=(kRSAdd f).sem [e 0,e 1,e 2,e 3,e 4,e 5,e 6,e 7,e 8,e 9,e 10,e 11,e 12,e 13,e 14,e 15,e 16,e 17],[]⟩ e:=by
 obtain ⟨h1,h2,hs⟩:sigOk (e 0) (e 1) (e 2) (e 3) (e 4) (e 5) (e 6) (e 7) (e 8)/\sigOk (e 9) (e 10) (e 11) (e 12) (e 13) (e 14) (e 15) (e 16) (e 17)/\e 0=e 9:=hp
 obtain ⟨_,_,_,_,_,_,k6,k7,k8,_,_,_,_,_,_,k15,k16,k17,_⟩:=hk
 show tRSigAdd.says _ ⟨fun ys=>ys=(sigAdd (e 0) (e 1) (e 2) (e 3) (e 4) (e 5) (e 6) (e 7) (e 8) (e 9) (e 10) (e 11) (e 12) (e 13) (e 14) (e 15) (e 16) (e 17)).take 9,[]⟩ e
 unfold sigAdd
 rw [if_neg (fun hc=>hc.elim (fun k=>k h1) (fun k=>k h2)),if_neg (fun hc=>hc hs)]
 intro a18 _
 have b18:=c_eq a18
 simp only [ev_var,ev_lit] at b18
 refine ⟨fun h=>?_,fun h=>?_⟩
 ·have e0:e 0=0:=b_yes b18 h
  refine ⟨⟨(sigOk_0 h1 e0).2.1,(sigOk_0 h2 (by omega)).2.1⟩,fun a1 _ a2 _ a3 _ a4 _ a5 _=>?_⟩
  rw [if_pos e0,tk9_v]
  have hr:[e 307,e 308,e 309,e 310,e 311]=lowV2 (sumJ R2 (rsV2 (e 1) (e 2) (e 3) (e 4) (e 5)) (rsV2 (e 10) (e 11) (e 12) (e 13) (e 14))):=five_of (l:=(kRAddP2 f1).sem [e 1,e 2,e 3,e 4,e 5,e 10,e 11,e 12,e 13,e 14]) _ rfl a1 a2 a3 a4 a5
  show [e 0,e 307,e 308,e 309,e 310,e 311,0,0,0]=_
  rw [<- hr,e0];rfl
 ·have n0:¬ e 0=0:=b_no b18 h
  obtain ⟨hl,_,hin⟩:=sigOk_L h1 n0
  have hin':=(sigOk_L h2 (by omega)).2.2
  rw [<- hs] at hin'
  refine ⟨trivial,fun a19 _ a20 _ a21 _ a22 _ a23 _ a24 _ a25 _=>?_⟩
  have v19:e 19=pL (e 0):=by rw [show e 19=(cvL (e 0)).getD 0 0 from a19,cvL_t hl];rfl
  refine ⟨by show prP (e 19)/\onL (e 19) ⟨e 6,e 7,e 8⟩/\onL (e 19) ⟨e 15,e 16,e 17⟩;rw [v19];exact ⟨pL_pr hl,onL_of hin.1 (has_u64 k6).1 (has_u64 k7).1 k8,onL_of hin'.1 (has_u64 k15).1 (has_u64 k16).1 k17⟩,fun a1 _ a2 _ a3 _=>?_⟩
  rw [if_neg n0,tk9_l]
  have hr:[e 362,e 363,e 364]=(sumP (e 19) ⟨e 6,e 7,e 8⟩ ⟨e 15,e 16,e 17⟩).l:=by
   rw [show e 362=_ from a1,show e 363=_ from a2,show e 364=_ from a3];rfl
  rw [v19] at hr
  show [e 0,0,0,0,0,0,e 362,e 363,e 364]=_
  rw [<- hr];rfl
def tRSigMul:Tree:=(.lett 10 .bit (.cmp .eql (.var 0) (.lit 0))
(.split 10
(.req 0 [.var 1,.var 2,.var 3,.var 4,.var 5,.var 9]
(.lett 251 .num (.app 0 0 [.var 1,.var 2,.var 3,.var 4,.var 5,.var 9])
(.lett 252 .num (.app 0 1 [.var 1,.var 2,.var 3,.var 4,.var 5,.var 9])
(.lett 253 .num (.app 0 2 [.var 1,.var 2,.var 3,.var 4,.var 5,.var 9])
(.lett 254 .num (.app 0 3 [.var 1,.var 2,.var 3,.var 4,.var 5,.var 9])
(.lett 255 .bit (.app 0 4 [.var 1,.var 2,.var 3,.var 4,.var 5,.var 9])
(.ret [.var 0,.var 251,.var 252,.var 253,.var 254,.var 255,.lit 0,.lit 0,.lit 0])))))))
(.req 1 [.var 0]
(.lett 11 (.int .u64) (.app 1 0 [.var 0])
(.lett 12 (.int .u64) (.app 1 1 [.var 0])
(.lett 13 (.int .u64) (.app 1 2 [.var 0])
(.lett 14 (.int .u64) (.app 1 3 [.var 0])
(.lett 15 (.int .u64) (.app 1 4 [.var 0])
(.lett 16 .bit (.app 1 5 [.var 0])
(.lett 17 .bit (.app 1 6 [.var 0])
(.req 2 [.var 11,.var 12,.var 13,.var 14,.var 15,.var 16,.var 6,.var 7,.var 8,.limb 9 0]
(.lett 354 (.int .u64) (.app 2 0 [.var 11,.var 12,.var 13,.var 14,.var 15,.var 16,.var 6,.var 7,.var 8,.limb 9 0])
(.lett 355 (.int .u64) (.app 2 1 [.var 11,.var 12,.var 13,.var 14,.var 15,.var 16,.var 6,.var 7,.var 8,.limb 9 0])
(.lett 356 .bit (.app 2 2 [.var 11,.var 12,.var 13,.var 14,.var 15,.var 16,.var 6,.var 7,.var 8,.limb 9 0])
(.ret [.var 0,.lit 0,.lit 0,.lit 0,.lit 0,.lit 0,.var 354,.var 355,.var 356])))))))))))))))
theorem law_rSigMul (f1 f2 f3 f:FuncId) (e:Nat->Int) (hk:kkHas [.int .i64,.num,.num,.num,.num,.bit,.int .u64,.int .u64,.bit,.num] [e 0,e 1,e 2,e 3,e 4,e 5,e 6,e 7,e 8,e 9]) (hp:(kRSMul f).pre [e 0,e 1,e 2,e 3,e 4,e 5,e 6,e 7,e 8,e 9]):tRSigMul.says [kRMulP2 f1,kLOf f2,kCTimes f3] ⟨fun ys=>ys=(kRSMul f).sem [e 0,e 1,e 2,e 3,e 4,e 5,e 6,e 7,e 8,e 9],[]⟩ e:=by
 obtain ⟨h1,hn⟩:sigOk (e 0) (e 1) (e 2) (e 3) (e 4) (e 5) (e 6) (e 7) (e 8)/\e 9<rOf (e 0):=hp
 obtain ⟨_,_,_,_,_,k5,k6,k7,k8,k9,_⟩:=hk
 have h9:0<=e 9:=k9.1
 show tRSigMul.says _ ⟨fun ys=>ys=(sigMul (e 0) (e 1) (e 2) (e 3) (e 4) (e 5) (e 6) (e 7) (e 8) (e 9)).take 9,[]⟩ e
 unfold sigMul
 rw [if_neg (fun hc=>hc h1),if_neg (fun hc=>hc hn)]
 intro a10 _
 have b10:=c_eq a10
 simp only [ev_var,ev_lit] at b10
 refine ⟨fun h=>?_,fun h=>?_⟩
 ·have e0:e 0=0:=b_yes b10 h
  have hg:=(sigOk_0 h1 e0).2.1
  refine ⟨hg.1,fun a1 _ a2 _ a3 _ a4 _ a5 _=>?_⟩
  rw [if_pos e0,tk9_v]
  have hr:[e 251,e 252,e 253,e 254,e 255]=lowV2 (tmJ R2 (rsV2 (e 1) (e 2) (e 3) (e 4) (e 5)) 384 (e 9).toNat):=five_of (l:=(kRMulP2 f1).sem [e 1,e 2,e 3,e 4,e 5,e 9]) _ (mulV2_rs hg k5) a1 a2 a3 a4 a5
  show [e 0,e 251,e 252,e 253,e 254,e 255,0,0,0]=_
  rw [<- hr,e0];rfl
 ·have n0:¬ e 0=0:=b_no b10 h
  obtain ⟨hl,_,hin⟩:=sigOk_L h1 n0
  refine ⟨trivial,fun a15 _ a16 _ a17 _ a18 _ a19 _ a20 _ a21 _=>?_⟩
  have v11:e 11=pL (e 0):=by rw [show e 11=(cvL (e 0)).getD 0 0 from a15,cvL_t hl];rfl
  refine ⟨by show prP (e 11)/\onL (e 11) ⟨e 6,e 7,e 8⟩;rw [v11];exact ⟨pL_pr hl,onL_of hin.1 (has_u64 k6).1 (has_u64 k7).1 k8⟩,fun a1 _ a2 _ a3 _=>?_⟩
  rw [if_neg n0,tk9_l]
  have hr:[e 354,e 355,e 356]=(mulP (e 11) ⟨e 6,e 7,e 8⟩ 64 (lim (e 9) 0).toNat).l:=by
   rw [show e 354=_ from a1,show e 355=_ from a2,show e 356=_ from a3];rfl
  rw [lim0 h9 (by have:=rOf_sm64 hl;omega),v11] at hr
  show [e 0,0,0,0,0,0,e 354,e 355,e 356]=_
  rw [<- hr];rfl
def tRSigBytes:Tree:=(.lett 9 .bit (.cmp .eql (.var 0) (.lit 0))
(.split 9
(.req 0 [.var 1,.var 2,.var 3,.var 4,.var 5]
(.lett 10 (.lst (.int .u8)) (.app 0 0 [.var 1,.var 2,.var 3,.var 4,.var 5])
(.ret [.var 10])))
(.req 1 [.var 6,.var 7,.var 8]
(.lett 10 (.lst (.int .u8)) (.app 1 0 [.var 6,.var 7,.var 8])
(.ret [.var 10])))))
theorem law_rSigBytes (te:TypeId) (f1 f2 f:FuncId) (e:Nat->Int) (hp:(kRSBytes te f).pre [e 0,e 1,e 2,e 3,e 4,e 5,e 6,e 7,e 8]):tRSigBytes.says [kRBytes2 te f1,kCBytes te f2] ⟨fun ys=>ys=(kRSBytes te f).sem [e 0,e 1,e 2,e 3,e 4,e 5,e 6,e 7,e 8],[]⟩ e:=by
 have hp:e 0=0->e 2<bP:=hp
 show tRSigBytes.says _ ⟨fun ys=>ys=[enc (sigB (e 0) (e 1) (e 2) (e 3) (e 4) (e 5) (e 6) (e 7) (e 8))],[]⟩ e
 unfold sigB
 intro a9 _
 have b9:=c_eq a9
 simp only [ev_var,ev_lit] at b9
 refine ⟨fun h=>?_,fun h=>?_⟩
 ·have e0:e 0=0:=b_yes b9 h
  refine ⟨hp e0,fun a10 _=>?_⟩
  rw [if_pos e0]
  exact congrArg (fun x=>[x]) a10
 ·refine ⟨trivial,fun a10 _=>?_⟩
  rw [if_neg (b_no b9 h)]
  exact congrArg (fun x=>[x]) a10
def tRReadSig:Tree:=(.req 0 [.var 0]
(.lett 2 .bit (.app 0 0 [.var 0])
(.lett 3 .bit (.not (.var 2))
(.split 3
(.ret [.lit 0,.lit 0,.lit 0,.lit 0,.lit 0,.lit 0,.lit 0,.lit 0,.lit 0,.lit 2])
(.lett 4 .bit (.cmp .eql (.var 0) (.lit 0))
(.split 4
 (.req 1 [.var 1]
 (.lett 5 .num (.app 1 0 [.var 1])
 (.lett 6 .num (.app 1 1 [.var 1])
 (.lett 7 .num (.app 1 2 [.var 1])
 (.lett 8 .num (.app 1 3 [.var 1])
 (.lett 9 .bit (.app 1 4 [.var 1])
 (.lett 10 (.int .i64) (.app 1 5 [.var 1])
 (.lett 11 .bit (.cmp .neq (.var 10) (.lit 0))
 (.split 11
 (.ret [.lit 0,.lit 0,.lit 0,.lit 0,.lit 0,.lit 0,.lit 0,.lit 0,.lit 0,.var 10])
 (.ret [.var 0,.var 5,.var 6,.var 7,.var 8,.var 9,.lit 0,.lit 0,.lit 0,.lit 0]))))))))))
 (.req 2 [.var 0]
 (.lett 5 (.int .u64) (.app 2 0 [.var 0])
 (.lett 6 (.int .u64) (.app 2 1 [.var 0])
 (.lett 7 (.int .u64) (.app 2 2 [.var 0])
 (.lett 8 (.int .u64) (.app 2 3 [.var 0])
 (.lett 9 (.int .u64) (.app 2 4 [.var 0])
 (.lett 10 .bit (.app 2 5 [.var 0])
 (.lett 11 .bit (.app 2 6 [.var 0])
 (.req 3 [.var 5,.var 6,.var 7,.var 8,.var 9,.var 10,.var 1]
 (.lett 12 (.int .u64) (.app 3 0 [.var 5,.var 6,.var 7,.var 8,.var 9,.var 10,.var 1])
 (.lett 13 (.int .u64) (.app 3 1 [.var 5,.var 6,.var 7,.var 8,.var 9,.var 10,.var 1])
 (.lett 14 .bit (.app 3 2 [.var 5,.var 6,.var 7,.var 8,.var 9,.var 10,.var 1])
 (.lett 15 (.int .i64) (.app 3 3 [.var 5,.var 6,.var 7,.var 8,.var 9,.var 10,.var 1])
 (.lett 16 .bit (.cmp .neq (.var 15) (.lit 0))
 (.split 16
 (.ret [.lit 0,.lit 0,.lit 0,.lit 0,.lit 0,.lit 0,.lit 0,.lit 0,.lit 0,.var 15])
 (.ret [.var 0,.lit 0,.lit 0,.lit 0,.lit 0,.lit 0,.var 12,.var 13,.var 14,.lit 0]))))))))))))))))))))))
theorem law_rReadSig (f1 f2 f3 f4 f:FuncId) (e:Nat->Int):tRReadSig.says [kIs f1,kRead2 f2,kLOf f3,kCRead f4] ⟨fun ys=>ys=(kReadSig f).sem [e 0,e 1],[]⟩ e:=by
 obtain ⟨b,hb⟩:∃ b,dec (e 1)=b:=⟨_,rfl⟩
 show tRReadSig.says _ ⟨fun ys=>ys=readSig (e 0) (dec (e 1)),[]⟩ e
 rw [hb]
 refine ⟨trivial,fun a2 _ a3 _=>?_⟩
 have v2:e 2=bi (isS (e 0)):=a2
 rw [bi_bj] at v2
 have b3:=c_not a3
 simp only [ev_var] at b3
 refine ⟨fun h=>?_,fun h=>?_⟩
 ·have hn:=bj_z v2 (b_yes b3 h)
  unfold isS at hn
  rw [readSig_n (by omega) (fun hc=>by rcases hc with h1 | h1 <;> omega)];rfl
 have hs:=bj_nz v2 (b_no b3 h)
 intro a4 _
 have b4:=c_eq a4
 simp only [ev_var,ev_lit] at b4
 refine ⟨fun h=>?_,fun h=>?_⟩
 ·have e0:e 0=0:=b_yes b4 h
  rw [readSig_0 e0]
  exact endQ_g (T:=[kIs f1,kRead2 f2,kLOf f3,kCRead f4]) 1 rfl 1 5 0 e0 hb
 have n0:¬ e 0=0:=b_no b4 h
 have hl:isL (e 0):=by
  obtain ⟨h1,h2⟩:=hs
  have:e 0=1∨e 0=2:=by omega
  exact this
 rw [readSig_L hl]
 refine ⟨trivial,fun a5 _ a6 _ a7 _ a8 _ a9 _ a10 _ a11 _=>?_⟩
 have v5:e 5=pL (e 0):=by rw [show e 5=(cvL (e 0)).getD 0 0 from a5,cvL_t hl];rfl
 have v6:e 6=rOf (e 0):=by rw [show e 6=(cvL (e 0)).getD 1 0 from a6,cvL_t hl];rfl
 refine ⟨by show prP (e 5);rw [v5];exact pL_pr hl,fun a12 _ a13 _ a14 _ a15 _ a16 _=>?_⟩
 have w12:e 12=(readLV (pL (e 0)) (rOf (e 0)) b).getD 0 0:=by rw [<- hb,<- v5,<- v6];exact a12
 have w13:e 13=(readLV (pL (e 0)) (rOf (e 0)) b).getD 1 0:=by rw [<- hb,<- v5,<- v6];exact a13
 have w14:e 14=(readLV (pL (e 0)) (rOf (e 0)) b).getD 2 0:=by rw [<- hb,<- v5,<- v6];exact a14
 have w15:e 15=(readLV (pL (e 0)) (rOf (e 0)) b).getD 3 0:=by rw [<- hb,<- v5,<- v6];exact a15
 have b16:=c_ne a16
 simp only [ev_var,ev_lit] at b16
 unfold sigL
 rw [<- w12,<- w13,<- w14,<- w15]
 refine ⟨fun h=>?_,fun h=>?_⟩
 ·rw [if_pos (show e 15≠0 by omega)];rfl
 ·rw [if_neg (fun hc=>hc (show e 15=0 by omega))];rfl
end Go.Sx
