/- Part Go of the proof. -/
import Derived.Test.YtlddchekkjjleaaGreatGn
import Derived.Test.YtlddchekkjjleaaGreatGg
set_option linter.unusedVariables false
set_option linter.unusedSimpArgs false
namespace Go.Sx
open Go Go.RowKit
set_option maxRecDepth 100000
set_option linter.unusedVariables false
set_option linter.unusedSimpArgs false
def markB (n i:Nat):Int:=160 + ((n + i:Nat):Int) % 90
def lentU (l:List Int) (k:Nat):List Int:=l ++ ((List.range k).map (markB l.length) ++ List.replicate (3 - k) 0)
def lentB (l:List Int):List Int:=l ++ (List.range 3).map (markB l.length)
theorem lentU_3 (l:List Int):lentU l 3=lentB l:=by unfold lentU lentB; simp
theorem lentU_len (l:List Int) {k:Nat} (h:k ≤ 3):(lentU l k).length=l.length + 3:=by
 unfold lentU
 rw [List.length_append,List.length_append,List.length_map,List.length_range,List.length_replicate]; omega
theorem lentB_len (l:List Int):(lentB l).length=l.length + 3:=by rw [← lentU_3]; exact lentU_len l (Nat.le_refl _)
theorem lentU_step (l:List Int) {k:Nat} (h:k < 3):(lentU l k).set (l.length + k) (markB l.length k)=lentU l (k + 1):=by
 unfold lentU
 rw [List.set_append_right _ _ (by omega),show l.length + k - l.length=k by omega,List.set_append_right _ _ (by simp),List.length_map,List.length_range,Nat.sub_self,show 3 - k=3 - (k + 1) + 1 by omega,List.replicate_succ,List.set_cons_zero,List.range_succ,List.map_append,List.append_assoc]; rfl
open Classical in
noncomputable def kSame (f:FuncId):K:={fn:=f,ext:=false,ins:=[.lst (.int .u8),.lst (.int .u8)],outs:=[oB],pre:=fun _=>True,sem:=fun | [a,b]=>[bj (dec a=dec b)] | _=>[] }
noncomputable def kLentB (te:TypeId) (f:FuncId):K:={fn:=f,ext:=false,ins:=[.lst (.int .u8)],outs:=[.lent te (.int .u8)],pre:=fun | [l]=>(dec l).length ≤ 1000000000 | _=>False,sem:=fun | [l]=>[enc (lentB (dec l)),((dec l).length:Int)] | _=>[] }
noncomputable def kKeptB (f:FuncId):K:={fn:=f,ext:=false,ins:=[.lent (.int .u8),.lst (.int .u8)],outs:=[oB],pre:=fun | [_,_,l]=>(dec l).length ≤ 1000000000 | _=>False,sem:=fun | [m,n,l]=>[bj (n=((dec l).length:Int) ∧ dec m=lentB (dec l))] | _=>[] }
def wrongV (o o':Prop) [Decidable o] [Decidable o'] (s s' n:Int):List Int:=if ¬ o then [5,5] else [if ¬ o' then 5 else if s ≠ s' then 2 else 0,if ¬ n < rOf s then 2 else 0]
open Classical in
noncomputable def kWrong (f:FuncId):K:={fn:=f,ext:=false,ins:=[.agg lsKey,.agg lsKey,iN],outs:=[oI,oI],pre:=fun _=>True,sem:=fun | [s,px,py,pz,x,y,z,s',px',py',pz',x',y',z',n]=>wrongV (keyOk s px py pz x y z) (keyOk s' px' py' pz' x' y' z') s s' n | _=>[] }
def tSameB:Tree:=(.lett 2 .bit (.lsame (.var 0) (.var 1))
(.ret [.var 2]))
theorem law_same (f:FuncId) (e:Nat → Int):tSameB.says [] ⟨fun ys=>ys=(kSame f).sem [e 0,e 1],[]⟩ e:=by
 intro a2 _
 exact congrArg (fun x=>[x]) (bj_of (c_same a2))
def tLentB:Tree:=(.lett 1 (.int .i64) (.llen (.var 0))
(.lett 2 (.int .i64) (.bin .add .i64 (.var 1) (.lit 3))
(.lett 3 .bit (.cmp .leq (.lit 0) (.var 2))
(.lett 4 .bit (.cmp .lss (.var 2) (.lit 4294967296))
(.nz (.var 3)
(.nz (.var 4)
(.lett 5 (.lst (.int .u8)) (.lrep (.var 2) (.lit 0))
(.lett 6 (.int .i64) (.llen (.var 5))
(.lett 7 .bit (.cmp .lss (.lit 0) (.var 6))
(.nz (.var 7)
(.lett 8 (.lst (.int .u8)) (.lcpy (.var 5) (.var 0))
(.lett 9 (.int .i64) (.llen (.var 0))
(.loop [.var 9,.var 8] [(.int .i64),(.lst (.int .u8))] 10
(.lett 12 (.int .i64) (.llen (.var 11))
(.lett 13 .bit (.cmp .lss (.var 10) (.var 12))
(.split 13
(.lett 14 (.int .i64) (.bin .rem .i64 (.var 10) (.lit 90))
(.lett 15 (.int .i64) (.bin .add .i64 (.lit 160) (.var 14))
(.lett 16 (.int .u8) (.conv .u8 (.var 15))
(.lett 17 (.int .i64) (.llen (.var 11))
(.lett 18 .bit (.cmp .leq (.lit 0) (.var 10))
(.lett 19 .bit (.cmp .lss (.var 10) (.var 17))
(.nz (.var 18)
(.nz (.var 19)
(.lett 20 (.lst (.int .u8)) (.lput (.var 11) (.var 10) (.var 16))
(.lett 21 (.int .i64) (.bin .add .i64 (.var 10) (.lit 1))
(.back 0 [.var 21,.var 20])))))))))))
(.lett 14 (.int .i64) (.llen (.var 0))
(.lett 15 (.int .i64) (.llen (.var 11))
(.lett 16 .bit (.cmp .leq (.lit 0) (.lit 0))
(.lett 17 .bit (.cmp .leq (.lit 0) (.var 14))
(.lett 18 .bit (.cmp .leq (.var 14) (.var 15))
(.nz (.var 16)
(.nz (.var 17)
(.nz (.var 18)
(.ret [.var 11,.var 14])))))))))))))))))))))))))
theorem law_lentB (te:TypeId) (f:FuncId) (e:Nat → Int) (hk:kkHas [.lst (.int .u8)] [e 0]) (hp:(kLentB te f).pre [e 0]):tLentB.says [] ⟨fun ys=>ys=(kLentB te f).sem [e 0],[]⟩ e:=by
 obtain ⟨l,d0⟩:∃ l,dec (e 0)=l:=⟨_,rfl⟩
 have hl:l.length ≤ 1000000000:=by rw [← d0]; exact hp
 show tLentB.says _ ⟨fun ys=>ys=[enc (lentB (dec (e 0))),((dec (e 0)).length:Int)],[]⟩ e
 rw [d0]
 clear hp hk
 intro a1 _ a2 _ a3 _ a4 _
 have v1:e 1=(l.length:Int):=by rw [← d0]; exact a1
 have v2:=add_ (a:=e 1) (b:=3) a2 (by omega)
 refine ⟨bit_nz a3 (by show 0 ≤ e 2; omega),lt_nz a4 (by show e 2 < 4294967296; omega),fun a5 _ a6 _ a7 _=>?_⟩
 have d5:dec (e 5)=List.replicate (l.length + 3) 0:=by
  rw [show e 5=enc (List.replicate (e 2).toNat 0) from a5,dec_enc,show (e 2).toNat=l.length + 3 by omega]
 have v6:e 6=((l.length + 3:Nat):Int):=by rw [show e 6=((dec (e 5)).length:Int) from a6,d5,List.length_replicate]
 refine ⟨lt_nz a7 (by show (0:Int) < e 6; omega),fun a8 _ a9 _=>?_⟩
 have q8:e 8=enc (lentU l 0):=by
  rw [show e 8=enc ((dec (e 0)).take (dec (e 5)).length ++ (dec (e 5)).drop (dec (e 0)).length) from a8,d0,d5,List.length_replicate,List.take_of_length_le (by omega),List.drop_replicate,show l.length + 3 - l.length=3 by omega]; rfl
 have v9:e 9=(l.length:Int):=by rw [← d0]; exact a9
 clear a1 a2 a3 a4 a5 a6 a7 a8 a9 d5 v6 v1 v2
 refine ⟨fun | [i,q]=>((l.length:Int) ≤ i ∧ i ≤ l.length + 3) ∧ q=enc (lentU l (i - l.length).toNat) | _=>False,fun | [i,_]=>(l.length + 3 - i).toNat | _=>0,?_,fun e' he hkk hI=>?_⟩
 ·show ((l.length:Int) ≤ e 9 ∧ e 9 ≤ l.length + 3) ∧ e 8=enc (lentU l (e 9 - l.length).toNat)
  rw [v9,Int.sub_self]
  exact ⟨⟨Int.le_refl _,by omega⟩,q8⟩
 obtain ⟨⟨i0,i1⟩,q11⟩:((l.length:Int) ≤ e' 10 ∧ e' 10 ≤ l.length + 3) ∧ e' 11=enc (lentU l (e' 10 - l.length).toNat):=hI
 have d0:=(congrArg dec (he 0 (by decide))).trans d0
 have d11:=(congrArg dec q11).trans (dec_enc _)
 have len:∀ {v:Int},v=((dec (e' 11)).length:Int) → v=l.length + 3:=fun h=>by rw [h,d11,lentU_len l (by omega)]; omega
 clear he hkk q8 v9
 intro a12 _ a13 _
 have v12:=len a12
 have b13:=c_lt a13
 simp only [ev_var] at b13
 refine ⟨fun h=>?_,fun h=>?_⟩
 ·have c13:e' 10 < l.length + 3:=by have:=b_yes b13 h; omega
  intro a14 _ a15 _ a16 _ a17 _ a18 _ a19 _
  have v14:=rem_ (i:=e' 10) 90 (by omega) a14
  have v15:=add_ (a:=160) (b:=e' 14) a15 (by omega)
  have v17:=len a17
  refine ⟨bit_nz a18 (by show 0 ≤ e' 10; omega),lt_nz a19 (by show e' 10 < e' 17; omega),fun a20 _ a21 _=>?_⟩
  have v16:e' 16=markB l.length (e' 10 - l.length).toNat:=by
   rw [show e' 16=e' 15 % 256 from a16,v15,v14]
   unfold markB
   rw [show ((l.length + (e' 10 - l.length).toNat:Nat):Int)=e' 10 by omega]; omega
  have v21:=add_ (a:=e' 10) (b:=1) a21 (by omega)
  show (((l.length:Int) ≤ e' 21 ∧ e' 21 ≤ l.length + 3) ∧ e' 20=enc (lentU l (e' 21 - l.length).toNat)) ∧ (l.length + 3 - e' 21).toNat < (l.length + 3 - e' 10).toNat
  refine ⟨⟨by omega,?_⟩,by omega⟩
  rw [show e' 20=enc ((dec (e' 11)).set (e' 10).toNat (e' 16)) from a20,d11,v16,show (e' 10).toNat=l.length + (e' 10 - l.length).toNat by omega,lentU_step l (by omega),show (e' 21 - l.length).toNat=(e' 10 - l.length).toNat + 1 by omega]
 ·have c13:e' 10=l.length + 3:=by have:=b_no b13 h; omega
  intro a14 _ a15 _ a16 _ a17 _ a18 _
  have v14:e' 14=(l.length:Int):=by rw [← d0]; exact a14
  have v15:=len a15
  refine ⟨bit_nz a16 (Int.le_refl _),bit_nz a17 (by show 0 ≤ e' 14; omega),le_nz a18 (by show e' 14 ≤ e' 15; omega),?_⟩
  show [e' 11,e' 14]=_
  rw [v14,q11,c13,show ((l.length:Int) + 3 - l.length).toNat=3 by omega,lentU_3]
def tKeptB:Tree:=(.lett 147 (.int .i64) (.llen (.var 2))
(.lett 195 .bit (.cmp .eql (.var 1) (.var 147))
(.split 195
(.lett 387 (.int .i64) (.llen (.var 0))
(.lett 435 (.int .i64) (.llen (.var 0))
(.lett 436 .bit (.cmp .leq (.lit 0) (.lit 0))
(.lett 437 .bit (.cmp .leq (.lit 0) (.var 387))
(.lett 438 .bit (.cmp .leq (.var 387) (.var 435))
(.nz (.var 436)
(.nz (.var 437)
(.nz (.var 438)
(.req 0 [.var 2]
(.lett 531 (.lst (.int .u8)) (.app 0 0 [.var 2])
(.lett 532 (.int .i64) (.app 0 1 [.var 2])
(.lett 627 (.int .i64) (.llen (.var 2))
(.lett 675 (.int .i64) (.bin .add .i64 (.var 627) (.lit 3))
(.lett 723 (.int .i64) (.llen (.var 531))
(.lett 724 .bit (.cmp .leq (.lit 0) (.lit 0))
(.lett 725 .bit (.cmp .leq (.lit 0) (.var 675))
(.lett 726 .bit (.cmp .leq (.var 675) (.var 723))
(.nz (.var 724)
(.nz (.var 725)
(.nz (.var 726)
(.lett 771 (.lst (.int .u8)) (.lsub (.var 0) (.lit 0) (.var 387))
(.lett 772 (.lst (.int .u8)) (.lsub (.var 531) (.lit 0) (.var 675))
(.req 1 [.var 771,.var 772]
(.lett 773 .bit (.app 1 0 [.var 771,.var 772])
(.ret [.var 773])))))))))))))))))))))))))
(.ret [.lit 0]))))
theorem law_keptB (te:TypeId) (f1 f2 f:FuncId) (e:Nat → Int) (hk:kkHas [.lst (.int .u8),.int .i64,.lst (.int .u8)] [e 0,e 1,e 2]) (hp:(kKeptB f).pre [e 0,e 1,e 2]):tKeptB.says [kLentB te f1,kSame f2] ⟨fun ys=>ys=(kKeptB f).sem [e 0,e 1,e 2],[]⟩ e:=by
 obtain ⟨l,d2⟩:∃ l,dec (e 2)=l:=⟨_,rfl⟩
 have hl:l.length ≤ 1000000000:=by rw [← d2]; exact hp
 show tKeptB.says _ ⟨fun ys=>ys=[bj (e 1=((dec (e 2)).length:Int) ∧ dec (e 0)=lentB (dec (e 2)))],[]⟩ e
 rw [d2]
 intro a147 _ a195 _
 have v147:e 147=(l.length:Int):=by rw [← d2]; exact a147
 have b195:=c_eq a195
 simp only [ev_var] at b195
 rw [v147] at b195
 refine ⟨fun h=>?_,fun h=>?_⟩
 ·have h1:=b_yes b195 h
  intro a387 _ a435 _ a436 _ a437 _ a438 _
  have v387:e 387=((dec (e 0)).length:Int):=a387
  have v435:e 435=((dec (e 0)).length:Int):=a435
  refine ⟨bit_nz a436 (Int.le_refl _),bit_nz a437 (by show 0 ≤ e 387; omega),le_nz a438 (by show e 387 ≤ e 435; omega),⟨by show (dec (e 2)).length ≤ 1000000000; rw [d2]; exact hl,fun a531 _ a532 _ a627 _ a675 _ a723 _ a724 _ a725 _ a726 _=>?_⟩⟩
  have d531:dec (e 531)=lentB l:=by rw [show e 531=enc (lentB (dec (e 2))) from a531,dec_enc,d2]
  have v627:e 627=(l.length:Int):=by rw [← d2]; exact a627
  have v675:=add_ (a:=e 627) (b:=3) a675 (by omega)
  have v723:e 723=((l.length + 3:Nat):Int):=by rw [show e 723=((dec (e 531)).length:Int) from a723,d531,lentB_len]
  refine ⟨bit_nz a724 (Int.le_refl _),bit_nz a725 (by show 0 ≤ e 675; omega),le_nz a726 (by show e 675 ≤ e 723; omega),fun a771 _ a772 _=>⟨trivial,fun a773 _=>?_⟩⟩
  have d771:dec (e 771)=dec (e 0):=by rw [show e 771=enc (((dec (e 0)).take (e 387).toNat).drop 0) from a771,dec_enc,v387,Int.toNat_natCast,List.take_of_length_le (Nat.le_refl _),List.drop_zero]
  have d772:dec (e 772)=lentB l:=by rw [show e 772=enc (((dec (e 531)).take (e 675).toNat).drop 0) from a772,dec_enc,d531,List.take_of_length_le (by rw [lentB_len]; omega),List.drop_zero]
  show [e 773]=_
  rw [show e 773=bj (dec (e 771)=dec (e 772)) from a773,d771,d772]
  exact congrArg (fun x=>[x]) (bj_iff ⟨fun h=>⟨h1,h⟩,fun h=>h.2⟩)
 ·show [(0:Int)]=_
  rw [bj_f (fun hh=>b_no b195 h hh.1)]
def tWrong:Tree:=(.req 0 [.var 0,.var 1,.var 2,.var 3,.var 4,.var 5,.var 6]
(.lett 15 .bit (.app 0 0 [.var 0,.var 1,.var 2,.var 3,.var 4,.var 5,.var 6])
(.lett 16 .bit (.not (.var 15))
(.split 16
(.ret [.lit 5,.lit 5])
(.req 0 [.var 7,.var 8,.var 9,.var 10,.var 11,.var 12,.var 13]
(.lett 17 .bit (.app 0 0 [.var 7,.var 8,.var 9,.var 10,.var 11,.var 12,.var 13])
(.lett 18 .bit (.not (.var 17))
(.split 18
 (.req 1 [.var 0,.var 14]
 (.lett 19 .bit (.app 1 0 [.var 0,.var 14])
 (.lett 20 .bit (.not (.var 19))
 (.split 20
 (.ret [.lit 5,.lit 2])
 (.ret [.lit 5,.lit 0])))))
 (.lett 19 .bit (.cmp .neq (.var 0) (.var 7))
 (.split 19
 (.req 1 [.var 0,.var 14]
 (.lett 20 .bit (.app 1 0 [.var 0,.var 14])
 (.lett 21 .bit (.not (.var 20))
 (.split 21
 (.ret [.lit 2,.lit 2])
 (.ret [.lit 2,.lit 0])))))
 (.req 1 [.var 0,.var 14]
 (.lett 20 .bit (.app 1 0 [.var 0,.var 14])
 (.lett 21 .bit (.not (.var 20))
 (.split 21
 (.ret [.lit 0,.lit 2])
 (.ret [.lit 0,.lit 0])))))))))))))))
theorem law_wrong (f1 f2 f:FuncId) (e:Nat → Int):tWrong.says [kKeyChk f1,kRScalar f2] ⟨fun ys=>ys=(kWrong f).sem [e 0,e 1,e 2,e 3,e 4,e 5,e 6,e 7,e 8,e 9,e 10,e 11,e 12,e 13,e 14],[]⟩ e:=by
 refine ⟨trivial,fun a15 _ a16 _=>?_⟩
 have v15:e 15=bj (keyOk (e 0) (e 1) (e 2) (e 3) (e 4) (e 5) (e 6)):=a15
 have b16:=c_not a16
 simp only [ev_var] at b16
 have hsem:∀ ys,ys=(kWrong f).sem [e 0,e 1,e 2,e 3,e 4,e 5,e 6,e 7,e 8,e 9,e 10,e 11,e 12,e 13,e 14] ↔ ys=@wrongV (keyOk (e 0) (e 1) (e 2) (e 3) (e 4) (e 5) (e 6)) (keyOk (e 7) (e 8) (e 9) (e 10) (e 11) (e 12) (e 13)) (Classical.propDecidable _) (Classical.propDecidable _) (e 0) (e 7) (e 14):=fun ys=>Iff.rfl
 refine ⟨fun h=>?_,fun h=>?_⟩
 ·refine (hsem _).2 ?_
  unfold wrongV
  rw [if_pos (bj_z v15 (b_yes b16 h))]; rfl
 have hok:=bj_nz v15 (b_no b16 h)
 have hs:=keyOk_s hok
 refine ⟨trivial,fun a17 _ a18 _=>?_⟩
 have v17:e 17=bj (keyOk (e 7) (e 8) (e 9) (e 10) (e 11) (e 12) (e 13)):=a17
 have b18:=c_not a18
 simp only [ev_var] at b18
 have fin:∀ (v w:Int) (t:Int),v=bi (e 14 < rOf (e 0)) → ((w=1 ∧ v=0) ∨ (w=0 ∧ ¬ v=0)) → (w ≠ 0 → [t,2]=[t,if ¬ e 14 < rOf (e 0) then (2:Int) else 0]) ∧ (w=0 → [t,0]=[t,if ¬ e 14 < rOf (e 0) then (2:Int) else 0]):=fun v w t hv hw=>by
  rw [bi_bj] at hv
  refine ⟨fun h=>?_,fun h=>?_⟩
  ·rw [if_pos (bj_z hv (b_yes hw h))]
  ·rw [if_neg (fun hc=>hc (bj_nz hv (b_no hw h)))]
 refine ⟨fun h=>?_,fun h=>?_⟩
 ·have hn:=bj_z v17 (b_yes b18 h)
  refine ⟨hs,fun a19 _ a20 _=>?_⟩
  have b20:=c_not a20
  simp only [ev_var] at b20
  have:=fin (e 19) (e 20) 5 a19 b20
  refine ⟨fun h=>(hsem _).2 ?_,fun h=>(hsem _).2 ?_⟩
  ·unfold wrongV; rw [if_neg (fun hc=>hc hok),if_pos hn]; exact this.1 h
  ·unfold wrongV; rw [if_neg (fun hc=>hc hok),if_pos hn]; exact this.2 h
 have hok2:=bj_nz v17 (b_no b18 h)
 intro a19 _
 have b19:=c_ne a19
 simp only [ev_var] at b19
 refine ⟨fun h=>?_,fun h=>?_⟩
 ·have hne:e 0 ≠ e 7:=by omega
  refine ⟨hs,fun a20 _ a21 _=>?_⟩
  have b21:=c_not a21
  simp only [ev_var] at b21
  have:=fin (e 20) (e 21) 2 a20 b21
  refine ⟨fun h=>(hsem _).2 ?_,fun h=>(hsem _).2 ?_⟩
  ·unfold wrongV; rw [if_neg (fun hc=>hc hok),if_neg (fun hc=>hc hok2),if_pos hne]; exact this.1 h
  ·unfold wrongV; rw [if_neg (fun hc=>hc hok),if_neg (fun hc=>hc hok2),if_pos hne]; exact this.2 h
 ·have hne:e 0=e 7:=by omega
  refine ⟨hs,fun a20 _ a21 _=>?_⟩
  have b21:=c_not a21
  simp only [ev_var] at b21
  have:=fin (e 20) (e 21) 0 a20 b21
  refine ⟨fun h=>(hsem _).2 ?_,fun h=>(hsem _).2 ?_⟩
  ·unfold wrongV; rw [if_neg (fun hc=>hc hok),if_neg (fun hc=>hc hok2),if_neg (fun hc=>hc hne)]; exact this.1 h
  ·unfold wrongV; rw [if_neg (fun hc=>hc hok),if_neg (fun hc=>hc hok2),if_neg (fun hc=>hc hne)]; exact this.2 h
end Go.Sx

namespace Go.Sx
open Go Go.RowKit
set_option maxRecDepth 100000
set_option linter.unusedVariables false
set_option linter.unusedSimpArgs false
noncomputable def kLBytes (te:TypeId) (f:FuncId):K:={fn:=f,ext:=false,ins:=[iI,iPt],outs:=[.lst te (.int .u8),oI],pre:=fun | [s,x,y,z]=>isL s ∧ onP (pL s) x y z | _=>False,sem:=fun | [s,x,y,z]=>[enc (bytesL x y z),0] | _=>[] }
noncomputable def kReadKeyL (f:FuncId):K:={fn:=f,ext:=false,ins:=[iI,.lent (.int .u8)],outs:=[.agg lsKey,oI],pre:=fun _=>True,sem:=fun | [s,l,n]=>readKey s ((dec l).take n.toNat) | _=>[] }
def tLBytes:Tree:=(.req 0 [.var 0]
(.lett 4 (.int .u64) (.app 0 0 [.var 0])
(.lett 5 (.int .u64) (.app 0 1 [.var 0])
(.lett 6 (.int .u64) (.app 0 2 [.var 0])
(.lett 7 (.int .u64) (.app 0 3 [.var 0])
(.lett 8 (.int .u64) (.app 0 4 [.var 0])
(.lett 9 .bit (.app 0 5 [.var 0])
(.lett 10 .bit (.app 0 6 [.var 0])
(.lett 11 .bit (.not (.var 10))
(.split 11
(.ret [.lit 0,.lit 2])
(.req 1 [.var 4,.var 5,.var 6,.var 7,.var 8,.var 9,.var 1,.var 2,.var 3]
(.lett 12 .bit (.app 1 0 [.var 4,.var 5,.var 6,.var 7,.var 8,.var 9,.var 1,.var 2,.var 3])
(.lett 13 .bit (.not (.var 12))
(.split 13
 (.ret [.lit 0,.lit 5])
 (.req 2 [.var 1,.var 2,.var 3]
 (.lett 14 (.int .u8) (.app 2 0 [.var 1,.var 2,.var 3])
 (.lett 15 (.int .u8) (.app 2 1 [.var 1,.var 2,.var 3])
 (.lett 16 (.int .u8) (.app 2 2 [.var 1,.var 2,.var 3])
 (.lett 17 (.int .u8) (.app 2 3 [.var 1,.var 2,.var 3])
 (.lett 18 (.int .u8) (.app 2 4 [.var 1,.var 2,.var 3])
 (.lett 19 (.int .u8) (.app 2 5 [.var 1,.var 2,.var 3])
 (.lett 20 (.int .u8) (.app 2 6 [.var 1,.var 2,.var 3])
 (.lett 21 (.int .u8) (.app 2 7 [.var 1,.var 2,.var 3])
 (.lett 22 (.int .u8) (.app 2 8 [.var 1,.var 2,.var 3])
 (.lett 23 (.int .u8) (.app 2 9 [.var 1,.var 2,.var 3])
 (.lett 24 (.int .u8) (.app 2 10 [.var 1,.var 2,.var 3])
 (.lett 25 (.int .u8) (.app 2 11 [.var 1,.var 2,.var 3])
 (.lett 26 (.int .u8) (.app 2 12 [.var 1,.var 2,.var 3])
 (.lett 27 (.int .u8) (.app 2 13 [.var 1,.var 2,.var 3])
 (.lett 28 (.int .u8) (.app 2 14 [.var 1,.var 2,.var 3])
 (.lett 29 (.int .u8) (.app 2 15 [.var 1,.var 2,.var 3])
 (.lett 30 (.int .u8) (.app 2 16 [.var 1,.var 2,.var 3])
 (.lett 31 (.lst (.int .u8)) (.lapp (.lit 0) [.var 14,.var 15,.var 16,.var 17,.var 18,.var 19,.var 20,.var 21,.var 22,.var 23,.var 24,.var 25,.var 26,.var 27,.var 28,.var 29,.var 30])
 (.ret [.var 31,.lit 0]))))))))))))))))))))))))))))))))))
theorem law_lBytes (te:TypeId) (f1 f2 f3 f:FuncId) (e:Nat → Int) (hp:(kLBytes te f).pre [e 0,e 1,e 2,e 3]):tLBytes.says [kLOf f1,kLOn f2,kWritten f3] ⟨fun ys=>ys=(kLBytes te f).sem [e 0,e 1,e 2,e 3],[]⟩ e:=by
 obtain ⟨hl,hon⟩:isL (e 0) ∧ onP (pL (e 0)) (e 1) (e 2) (e 3):=hp
 have hpr:=pL_pr hl
 show tLBytes.says _ ⟨fun ys=>ys=[enc (bytesL (e 1) (e 2) (e 3)),0],[]⟩ e
 refine ⟨trivial,fun a4 _ a5 _ a6 _ a7 _ a8 _ a9 _ a10 _ a11 _=>?_⟩
 have v4:e 4=pL (e 0):=by rw [show e 4=(cvL (e 0)).getD 0 0 from a4,cvL_t hl]; rfl
 have v10:e 10=1:=by rw [show e 10=(cvL (e 0)).getD 6 0 from a10,cvL_t hl]; rfl
 have b11:=c_not a11
 simp only [ev_var] at b11
 refine ⟨fun h=>by have:=b_yes b11 h; omega,fun _=>⟨?_,fun a12 _ a13 _=>?_⟩⟩
 ·show pOk (e 4)
  rw [v4]; exact pr_ok hpr
 have v12:e 12=bi (onP (e 4) (e 1) (e 2) (e 3)):=a12
 rw [v4,bi_bj] at v12
 have b13:=c_not a13
 simp only [ev_var] at b13
 refine ⟨fun h=>absurd hon (bj_z v12 (b_yes b13 h)),fun _=>⟨trivial,?_⟩⟩
 intro c0 _ c1 _ c2 _ c3 _ c4 _ c5 _ c6 _ c7 _ c8 _ c9 _ c10 _ c11 _ c12 _ c13 _ c14 _ c15 _ c16 _ a31 _
 show [e 31,0]=_
 rw [show e 31=enc (dec 0 ++ [e 14,e 15,e 16,e 17,e 18,e 19,e 20,e 21,e 22,e 23,e 24,e 25,e 26,e 27,e 28,e 29,e 30]) from a31,dec_zero,List.nil_append]
 have:[e 14,e 15,e 16,e 17,e 18,e 19,e 20,e 21,e 22,e 23,e 24,e 25,e 26,e 27,e 28,e 29,e 30]=bytesL (e 1) (e 2) (e 3):=by
  rw [show e 14=_ from c0,show e 15=_ from c1,show e 16=_ from c2,show e 17=_ from c3,show e 18=_ from c4,show e 19=_ from c5,show e 20=_ from c6,show e 21=_ from c7,show e 22=_ from c8,show e 23=_ from c9,show e 24=_ from c10,show e 25=_ from c11,show e 26=_ from c12,show e 27=_ from c13,show e 28=_ from c14,show e 29=_ from c15,show e 30=_ from c16]; rfl
 rw [this]
theorem endP_at {T:List K} {e:Nat → Int} {f:FuncId} (h0:T[0]?=some (kRead1 f)) (w n:Nat) (v:Nat) (hv:e v=0) {b:List Int} (hb:dec (e w)=b) :
  (Tree.req 0 [.var w] (.lett n .num (.app 0 0 [.var w]) (.lett (n + 1) .num (.app 0 1 [.var w]) (.lett (n + 2) .bit (.app 0 2 [.var w]) (.lett (n + 3) (.int .i64) (.app 0 3 [.var w]) (.lett (n + 4) .bit (.cmp .neq (.var (n + 3)) (.lit 0)) (.split (n + 4) (.ret [.lit 0,.lit 0,.lit 0,.lit 0,.lit 0,.lit 0,.lit 0,.var (n + 3)]) (.ret [.var v,.var n,.var (n + 1),.var (n + 2),.lit 0,.lit 0,.lit 0,.lit 0])))))))).says T ⟨fun ys=>ys=keyP (read1V b),[]⟩ e:=by
 refine ⟨by rw [h0]; trivial,fun a0 _ a1 _ a2 _ a3 _ a4 _=>?_⟩
 simp only [D.ev,h0] at a0 a1 a2 a3
 have v0:e n=(read1V b).getD 0 0:=by rw [← hb]; exact a0
 have v1:e (n + 1)=(read1V b).getD 1 0:=by rw [← hb]; exact a1
 have v2:e (n + 2)=(read1V b).getD 2 0:=by rw [← hb]; exact a2
 have v3:e (n + 3)=(read1V b).getD 3 0:=by rw [← hb]; exact a3
 have b4:=c_ne a4
 simp only [ev_var,ev_lit] at b4
 unfold keyP
 rw [← v0,← v1,← v2,← v3]
 refine ⟨fun h=>?_,fun h=>?_⟩
 ·rw [if_pos (show e (n + 3) ≠ 0 by omega)]; rfl
 ·rw [if_neg (fun hc=>hc (show e (n + 3)=0 by omega))]
  show [e v,e n,e (n + 1),e (n + 2),0,0,0,0]=_
  rw [hv]
theorem endL_at {T:List K} {e:Nat → Int} {f:FuncId} (h0:T[1]?=some (kLRead f)) (w n:Nat) (hl:isL (e 0)) {b:List Int} (hb:dec (e w)=b) :
  (Tree.req 1 [.var 0,.var w] (.lett n (.int .u64) (.app 1 0 [.var 0,.var w]) (.lett (n + 1) (.int .u64) (.app 1 1 [.var 0,.var w]) (.lett (n + 2) .bit (.app 1 2 [.var 0,.var w]) (.lett (n + 3) (.int .i64) (.app 1 3 [.var 0,.var w]) (.lett (n + 4) .bit (.cmp .neq (.var (n + 3)) (.lit 0)) (.split (n + 4) (.ret [.lit 0,.lit 0,.lit 0,.lit 0,.lit 0,.lit 0,.lit 0,.var (n + 3)]) (.ret [.var 0,.lit 0,.lit 0,.lit 0,.var n,.var (n + 1),.var (n + 2),.lit 0])))))))).says T ⟨fun ys=>ys=keyL (e 0) (readLV (pL (e 0)) (rOf (e 0)) b),[]⟩ e:=by
 refine ⟨by rw [h0]; exact hl,fun a0 _ a1 _ a2 _ a3 _ a4 _=>?_⟩
 simp only [D.ev,h0] at a0 a1 a2 a3
 have v0:e n=(readLV (pL (e 0)) (rOf (e 0)) b).getD 0 0:=by rw [← hb]; exact a0
 have v1:e (n + 1)=(readLV (pL (e 0)) (rOf (e 0)) b).getD 1 0:=by rw [← hb]; exact a1
 have v2:e (n + 2)=(readLV (pL (e 0)) (rOf (e 0)) b).getD 2 0:=by rw [← hb]; exact a2
 have v3:e (n + 3)=(readLV (pL (e 0)) (rOf (e 0)) b).getD 3 0:=by rw [← hb]; exact a3
 have b4:=c_ne a4
 simp only [ev_var,ev_lit] at b4
 unfold keyL
 rw [← v0,← v1,← v2,← v3]
 refine ⟨fun h=>?_,fun h=>?_⟩
 ·rw [if_pos (show e (n + 3) ≠ 0 by omega)]; rfl
 ·rw [if_neg (fun hc=>hc (show e (n + 3)=0 by omega))]; rfl
theorem lsub_t {T:List K} {e:Nat → Int} {v:Int} {x n:Nat} (h:v=(D.lsub (.var x) (.lit 0) (.var n)).ev T e):dec v=(dec (e x)).take (e n).toNat:=by
 rw [h]
 show dec (enc (((dec (e x)).take (e n).toNat).drop 0))=_
 rw [dec_enc,List.drop_zero]
def tReadKeyL:Tree:=(.lett 3 .bit (.cmp .eql (.var 0) (.lit 0))
(.split 3
(.lett 4 .bit (.cmp .eql (.var 0) (.lit 0))
(.split 4
 (.lett 5 (.lst (.int .u8)) (.lsub (.var 1) (.lit 0) (.var 2))
 (.req 0 [.var 5]
 (.lett 6 .num (.app 0 0 [.var 5])
 (.lett 7 .num (.app 0 1 [.var 5])
 (.lett 8 .bit (.app 0 2 [.var 5])
 (.lett 9 (.int .i64) (.app 0 3 [.var 5])
 (.lett 10 .bit (.cmp .neq (.var 9) (.lit 0))
 (.split 10
 (.ret [.lit 0,.lit 0,.lit 0,.lit 0,.lit 0,.lit 0,.lit 0,.var 9])
 (.ret [.var 0,.var 6,.var 7,.var 8,.lit 0,.lit 0,.lit 0,.lit 0])))))))))
 (.lett 5 (.lst (.int .u8)) (.lsub (.var 1) (.lit 0) (.var 2))
 (.req 1 [.var 0,.var 5]
 (.lett 6 (.int .u64) (.app 1 0 [.var 0,.var 5])
 (.lett 7 (.int .u64) (.app 1 1 [.var 0,.var 5])
 (.lett 8 .bit (.app 1 2 [.var 0,.var 5])
 (.lett 9 (.int .i64) (.app 1 3 [.var 0,.var 5])
 (.lett 10 .bit (.cmp .neq (.var 9) (.lit 0))
 (.split 10
 (.ret [.lit 0,.lit 0,.lit 0,.lit 0,.lit 0,.lit 0,.lit 0,.var 9])
 (.ret [.var 0,.lit 0,.lit 0,.lit 0,.var 6,.var 7,.var 8,.lit 0])))))))))))
(.lett 4 .bit (.cmp .eql (.var 0) (.lit 1))
(.split 4
 (.lett 5 .bit (.cmp .eql (.var 0) (.lit 0))
 (.split 5
 (.lett 6 (.lst (.int .u8)) (.lsub (.var 1) (.lit 0) (.var 2))
 (.req 0 [.var 6]
 (.lett 7 .num (.app 0 0 [.var 6])
 (.lett 8 .num (.app 0 1 [.var 6])
 (.lett 9 .bit (.app 0 2 [.var 6])
 (.lett 10 (.int .i64) (.app 0 3 [.var 6])
 (.lett 11 .bit (.cmp .neq (.var 10) (.lit 0))
 (.split 11
 (.ret [.lit 0,.lit 0,.lit 0,.lit 0,.lit 0,.lit 0,.lit 0,.var 10])
 (.ret [.var 0,.var 7,.var 8,.var 9,.lit 0,.lit 0,.lit 0,.lit 0])))))))))
 (.lett 6 (.lst (.int .u8)) (.lsub (.var 1) (.lit 0) (.var 2))
 (.req 1 [.var 0,.var 6]
 (.lett 7 (.int .u64) (.app 1 0 [.var 0,.var 6])
 (.lett 8 (.int .u64) (.app 1 1 [.var 0,.var 6])
 (.lett 9 .bit (.app 1 2 [.var 0,.var 6])
 (.lett 10 (.int .i64) (.app 1 3 [.var 0,.var 6])
 (.lett 11 .bit (.cmp .neq (.var 10) (.lit 0))
 (.split 11
 (.ret [.lit 0,.lit 0,.lit 0,.lit 0,.lit 0,.lit 0,.lit 0,.var 10])
 (.ret [.var 0,.lit 0,.lit 0,.lit 0,.var 7,.var 8,.var 9,.lit 0])))))))))))
 (.lett 5 .bit (.cmp .eql (.var 0) (.lit 2))
 (.lett 6 .bit (.not (.var 5))
 (.split 6
 (.ret [.lit 0,.lit 0,.lit 0,.lit 0,.lit 0,.lit 0,.lit 0,.lit 2])
 (.lett 7 .bit (.cmp .eql (.var 0) (.lit 0))
 (.split 7
 (.lett 8 (.lst (.int .u8)) (.lsub (.var 1) (.lit 0) (.var 2))
 (.req 0 [.var 8]
 (.lett 9 .num (.app 0 0 [.var 8])
 (.lett 10 .num (.app 0 1 [.var 8])
 (.lett 11 .bit (.app 0 2 [.var 8])
 (.lett 12 (.int .i64) (.app 0 3 [.var 8])
 (.lett 13 .bit (.cmp .neq (.var 12) (.lit 0))
 (.split 13
 (.ret [.lit 0,.lit 0,.lit 0,.lit 0,.lit 0,.lit 0,.lit 0,.var 12])
 (.ret [.var 0,.var 9,.var 10,.var 11,.lit 0,.lit 0,.lit 0,.lit 0])))))))))
 (.lett 8 (.lst (.int .u8)) (.lsub (.var 1) (.lit 0) (.var 2))
 (.req 1 [.var 0,.var 8]
 (.lett 9 (.int .u64) (.app 1 0 [.var 0,.var 8])
 (.lett 10 (.int .u64) (.app 1 1 [.var 0,.var 8])
 (.lett 11 .bit (.app 1 2 [.var 0,.var 8])
 (.lett 12 (.int .i64) (.app 1 3 [.var 0,.var 8])
 (.lett 13 .bit (.cmp .neq (.var 12) (.lit 0))
 (.split 13
 (.ret [.lit 0,.lit 0,.lit 0,.lit 0,.lit 0,.lit 0,.lit 0,.var 12])
 (.ret [.var 0,.lit 0,.lit 0,.lit 0,.var 9,.var 10,.var 11,.lit 0]))))))))))))))))))
theorem law_readKeyL (f1 f2 f:FuncId) (e:Nat → Int):tReadKeyL.says [kRead1 f1,kLRead f2] ⟨fun ys=>ys=(kReadKeyL f).sem [e 0,e 1,e 2],[]⟩ e:=by
 obtain ⟨b,hb⟩:∃ b,(dec (e 1)).take (e 2).toNat=b:=⟨_,rfl⟩
 show tReadKeyL.says _ ⟨fun ys=>ys=readKey (e 0) ((dec (e 1)).take (e 2).toNat),[]⟩ e
 rw [hb]
 intro a2 _
 have b2:=c_eq a2
 simp only [ev_var,ev_lit] at b2
 refine ⟨fun h=>?_,fun h=>?_⟩
 ·have e0:e 0=0:=b_yes b2 h
  intro a3 _
  have b3:=c_eq a3
  simp only [ev_var,ev_lit] at b3
  refine ⟨fun _=>fun a5 _=>?_,fun h=>absurd e0 (b_no b3 h)⟩
  rw [readKey_0 e0]
  exact endP_at (T:=[kRead1 f1,kLRead f2]) rfl 5 6 0 e0 ((lsub_t a5).trans hb)
 have n0:=b_no b2 h
 intro a3 _
 have b3:=c_eq a3
 simp only [ev_var,ev_lit] at b3
 refine ⟨fun h=>?_,fun h=>?_⟩
 ·have e1:e 0=1:=b_yes b3 h
  intro a4 _
  have b4:=c_eq a4
  simp only [ev_var,ev_lit] at b4
  refine ⟨fun h=>absurd (b_yes b4 h) n0,fun _=>fun a6 _=>?_⟩
  rw [readKey_L (.inl e1)]
  exact endL_at (T:=[kRead1 f1,kLRead f2]) rfl 6 7 (.inl e1) ((lsub_t a6).trans hb)
 have n1:=b_no b3 h
 intro a4 _ a5 _
 have b4:=c_eq a4
 have b5:=c_not a5
 simp only [ev_var,ev_lit] at b4 b5
 refine ⟨fun h=>?_,fun h=>?_⟩
 ·have:¬ isL (e 0):=fun hc=>by
   have:=b_yes b5 h
   rcases hc with h1 | h1 <;> omega
  rw [readKey_n n0 this]; rfl
 ·have e2:e 0=2:=by have:=b_no b5 h; omega
  intro a6 _
  have b6:=c_eq a6
  simp only [ev_var,ev_lit] at b6
  refine ⟨fun h=>absurd (b_yes b6 h) n0,fun _=>fun a8 _=>?_⟩
  rw [readKey_L (.inr e2)]
  exact endL_at (T:=[kRead1 f1,kLRead f2]) rfl 8 9 (.inr e2) ((lsub_t a8).trans hb)
end Go.Sx

namespace Go.Sx
open Go Go.RowKit
set_option maxRecDepth 100000
set_option linter.unusedVariables false
set_option linter.unusedSimpArgs false
def vars (i n:Nat):List A:=(List.range n).map fun j=>.var (i + j)
def rTo (g:Nat) (us:List A) (g':Nat) (us':List A) (cs:List (Nat × D)) (n:Nat):List Rule:=(List.range n).map fun j=>{l:=.app g j us,r:=.d (.app g' j us'),cs:=cs }
def rLit (g:Nat) (us:List A) (xs:List Int):List Rule:=(List.range xs.length).map fun j=>{l:=.app g j us,r:=.a (.lit (xs.getD j 0)) }
theorem rulesOk_app {T:List K} {e:Nat → Int}:∀ {a b:List Rule},RulesOk T e a → RulesOk T e b → RulesOk T e (a ++ b)
 | [],_,_,h=>h
 | _ :: _,_,h,h'=>⟨h.1,rulesOk_app h.2 h'⟩
theorem rulesOk_map {T:List K} {e:Nat → Int} {f:Nat → Rule}:∀ {l:List Nat},(∀ j ∈ l,CsOk T e (f j).cs → (f j).l.ev T e=(f j).r.ev T e) → RulesOk T e (l.map f)
 | [],_=>trivial
 | j :: l,h=>⟨h j (List.mem_cons_self ..),rulesOk_map fun i hi=>h i (List.mem_cons_of_mem _ hi)⟩
theorem rTo_ok {T:List K} {e:Nat → Int} {g g' n:Nat} {us us':List A} {cs:List (Nat × D)} {κ κ':K} (h:T[g]?=some κ) (h':T[g']?=some κ') (hs:CsOk T e cs → ∀ j,j < n → (κ.sem (us.map (·.ev e))).getD j 0=(κ'.sem (us'.map (·.ev e))).getD j 0):RulesOk T e (rTo g us g' us' cs n) :=
 rulesOk_map fun j hj hc=>by
  show (D.app g j us).ev T e=(D.app g' j us').ev T e
  simp only [D.ev,h,h']
  exact hs hc j (List.mem_range.1 hj)
theorem rLit_ok {T:List K} {e:Nat → Int} {g:Nat} {us:List A} {xs:List Int} {κ:K} (h:T[g]?=some κ) (hs:∀ j,j < xs.length → (κ.sem (us.map (·.ev e))).getD j 0=xs.getD j 0):RulesOk T e (rLit g us xs) :=
 rulesOk_map fun j hj hc=>by
  show (D.app g j us).ev T e=xs.getD j 0
  simp only [D.ev,h]
  exact hs j (List.mem_range.1 hj)
def ka7:List A:=vars 0 7
def kb14:List A:=vars 0 14
def k15:List A:=vars 0 15
def kn8:List A:=vars 0 7 ++ [.var 14]
def csLent:List (Nat × D):=[(19,.app 0 0 [.var 16]),(20,.app 0 1 [.var 16])]
def rLong (b:Bool):Rule:={l:=.cmp .gtr (.var 17) (.lit 200),r:=.a (bitA b),cs:=[(17,.llen (.var 16))] }
def auLong:Au:={rules:=[rLong true] }
def reqsK:List (Nat × List A):=[(0,[.var 16]),(7,[.var 19,.var 20,.var 16])]
def rSame:List Rule:=rTo 6 [.var 15,.var 16] 5 [.var 15,.var 19,.var 20] csLent 8 ++ [{l:=.app 7 0 [.var 19,.var 20,.var 16],r:=.a (.lit 1),cs:=csLent }]
def trivK:List Nat:=[1,2,3,4,5,6,8,9,14,15]
def auNo:Au:={rules:=rLong false :: (rSame ++ (rLit 8 ka7 [0] ++ (rLit 9 ka7 [0] ++ (rLit 1 k15 [5,5] ++ (rLit 2 kb14 [0,0,0,0,0,0,0,5] ++ (rLit 3 kn8 [0,0,0,0,0,0,0,5] ++ rLit 4 ka7 [0,0,0,0,0,0,0,5])))))),triv:=trivK,reqs:=reqsK }
def rSum (w:Int):List Rule:=if w == 0 then {l:=.app 2 7 kb14,r:=.a (.lit 0) } :: rTo 10 kb14 2 kb14 [] 7 else rLit 2 kb14 [0,0,0,0,0,0,0,w]
def rTim (w:Int):List Rule:=if w == 0 then {l:=.app 3 7 kn8,r:=.a (.lit 0) } :: rTo 11 kn8 3 kn8 [] 7 else rLit 3 kn8 [0,0,0,0,0,0,0,w]
def rByt (z:Bool):List Rule:=if z then [{l:=.cmp .eql (.var 0) (.lit 0),r:=.a (.lit 1) },{l:=.app 13 0 ka7,r:=.d (.app 15 0 (vars 1 3)) },{l:=.app 15 1 (vars 1 3),r:=.a (.lit 0) }]
 else [{l:=.cmp .eql (.var 0) (.lit 0),r:=.a (.lit 0) },{l:=.app 13 0 ka7,r:=.d (.app 16 0 (.var 0 :: vars 4 3)) },{l:=.app 16 1 (.var 0 :: vars 4 3),r:=.a (.lit 0) }]
def auOk (z:Bool) (w v:Int):Au :=
 {rules:=rLong false :: (rSame ++ (rLit 8 ka7 [1] ++ (rLit 9 ka7 [1] ++ (rLit 1 k15 [w,v] ++ (rSum w ++ (rTim v ++ (rByt z ++ ({l:=.app 4 7 ka7,r:=.a (.lit 0) } :: rTo 12 ka7 4 ka7 [] 7)))))))),
  triv:=trivK,refl:=[14],
  reqs:=reqsK ++ ((12,ka7) :: (13,ka7) :: ((if w == 0 then [(10,kb14)] else []) ++ ((if v == 0 then [(11,kn8)] else []) ++ (if z then [] else [(16,.var 0 :: vars 4 3)])))) }
noncomputable def kList (te tb:TypeId) (f0 f1 f2 f3 f4 f5 f6 f7 f8 f9 f10 f11 f12 f13 f14 f15 f16:FuncId):List K:=[kLentB te f0,kWrong f1,kKAdd f2,kKMul f3,kKNeg f4,kReadKeyL f5,kReadKey f6,kKeptB f7,kKeyChk f8,kKeyChk f9,kRKAdd f10,kRKMul f11,kRKNeg f12,kRKBytes te f13,kSame f14,kBytes1 te f15,kLBytes tb f16]
section
variable {te tb:TypeId} {f0 f1 f2 f3 f4 f5 f6 f7 f8 f9 f10 f11 f12 f13 f14 f15 f16:FuncId} {e:Nat → Int}
theorem lentB_take (l:List Int):(lentB l).take l.length=l:=by unfold lentB; exact List.take_left' rfl
theorem cs_lent (h:CsOk (kList te tb f0 f1 f2 f3 f4 f5 f6 f7 f8 f9 f10 f11 f12 f13 f14 f15 f16) e csLent):e 19=enc (lentB (dec (e 16))) ∧ e 20=((dec (e 16)).length:Int) :=
 ⟨h (19,.app 0 0 [.var 16]) (List.mem_cons_self ..),h (20,.app 0 1 [.var 16]) (List.mem_cons_of_mem _ (List.mem_cons_self ..))⟩
theorem rSame_ok:RulesOk (kList te tb f0 f1 f2 f3 f4 f5 f6 f7 f8 f9 f10 f11 f12 f13 f14 f15 f16) e rSame:=by
 refine rulesOk_app (rTo_ok (κ:=kReadKey f6) (κ':=kReadKeyL f5) rfl rfl fun hc j _=>?_) ⟨fun hc=>?_,trivial⟩
 ·obtain ⟨h1,h2⟩:=cs_lent hc
  show (readKey (e 15) (dec (e 16))).getD j 0=(readKey (e 15) ((dec (e 19)).take (e 20).toNat)).getD j 0
  rw [h1,h2,dec_enc,Int.toNat_natCast,lentB_take]
 ·obtain ⟨h1,h2⟩:=cs_lent hc
  show bj (e 20=((dec (e 16)).length:Int) ∧ dec (e 19)=lentB (dec (e 16)))=1
  exact bj_t ⟨h2,by rw [h1,dec_enc]⟩
theorem rLong_ok {b:Bool} (h:b2i b=b2i (decide (((dec (e 16)).length:Int) > 200))):CsOk (kList te tb f0 f1 f2 f3 f4 f5 f6 f7 f8 f9 f10 f11 f12 f13 f14 f15 f16) e (rLong b).cs → (rLong b).l.ev (kList te tb f0 f1 f2 f3 f4 f5 f6 f7 f8 f9 f10 f11 f12 f13 f14 f15 f16) e=(rLong b).r.ev (kList te tb f0 f1 f2 f3 f4 f5 f6 f7 f8 f9 f10 f11 f12 f13 f14 f15 f16) e:=fun hc=>by
 have h17:e 17=((dec (e 16)).length:Int):=hc (17,.llen (.var 16)) (List.mem_cons_self ..)
 show b2i (decide (e 17 > 200))=(bitA b).ev e
 rw [h17,bitA_ev,h]
theorem triv_okK:TrivOk (kList te tb f0 f1 f2 f3 f4 f5 f6 f7 f8 f9 f10 f11 f12 f13 f14 f15 f16) trivK:=⟨fun _=>trivial,fun _=>trivial,fun _=>trivial,fun _=>trivial,fun _=>trivial,fun _=>trivial,fun _=>trivial,fun _=>trivial,fun _=>trivial,fun _=>trivial,trivial⟩
theorem reqs_okK (h:((dec (e 16)).length:Int) ≤ 200) {l:List (Nat × List A)} (hl:ReqsOk (kList te tb f0 f1 f2 f3 f4 f5 f6 f7 f8 f9 f10 f11 f12 f13 f14 f15 f16) e l):ReqsOk (kList te tb f0 f1 f2 f3 f4 f5 f6 f7 f8 f9 f10 f11 f12 f13 f14 f15 f16) e (reqsK ++ l) :=
 ⟨show (dec (e 16)).length ≤ 1000000000 by omega,show (dec (e 16)).length ≤ 1000000000 by omega,hl⟩
theorem auLong_ok (h:((dec (e 16)).length:Int) > 200):auLong.Ok (kList te tb f0 f1 f2 f3 f4 f5 f6 f7 f8 f9 f10 f11 f12 f13 f14 f15 f16) e :=
 ⟨⟨rLong_ok (by rw [decide_eq_true h]),trivial⟩,trivial,trivial,trivial⟩
theorem lit_all {g:Nat} {us:List A} {xs:List Int} {κ:K} (h:(kList te tb f0 f1 f2 f3 f4 f5 f6 f7 f8 f9 f10 f11 f12 f13 f14 f15 f16)[g]?=some κ) (hs:κ.sem (us.map (·.ev e))=xs):RulesOk (kList te tb f0 f1 f2 f3 f4 f5 f6 f7 f8 f9 f10 f11 f12 f13 f14 f15 f16) e (rLit g us xs):=rLit_ok h fun j _=>by rw [hs]
theorem auNo_ok (h:((dec (e 16)).length:Int) ≤ 200) (hn:¬ keyOk (e 0) (e 1) (e 2) (e 3) (e 4) (e 5) (e 6)):auNo.Ok (kList te tb f0 f1 f2 f3 f4 f5 f6 f7 f8 f9 f10 f11 f12 f13 f14 f15 f16) e:=by
 refine ⟨⟨rLong_ok (by rw [decide_eq_false (by omega)]),rulesOk_app rSame_ok (rulesOk_app (lit_all (κ:=kKeyChk f8) rfl ?_) (rulesOk_app (lit_all (κ:=kKeyChk f9) rfl ?_) (rulesOk_app (lit_all (κ:=kWrong f1) rfl ?_) (rulesOk_app (lit_all (κ:=kKAdd f2) rfl ?_) (rulesOk_app (lit_all (κ:=kKMul f3) rfl ?_) (lit_all (κ:=kKNeg f4) rfl ?_))))))⟩,reqs_okK (l:=[]) h trivial,triv_okK,trivial⟩
 ·exact congrArg (fun x=>[x]) (bj_f hn)
 ·exact congrArg (fun x=>[x]) (bj_f hn)
 ·exact if_pos hn
 ·exact if_pos (.inl hn)
 ·exact if_pos hn
 ·exact if_pos hn
theorem seven {l l':List Int} (h:l'=l.take 7) {j:Nat} (hj:j < 7):l'.getD j 0=l.getD j 0:=by
 rw [h,List.getD_eq_getElem?_getD,List.getD_eq_getElem?_getD,List.getElem?_take_of_lt hj]
theorem rSum_ok {w:Int} (h:if w=0 then (keyAdd (e 0) (e 1) (e 2) (e 3) (e 4) (e 5) (e 6) (e 7) (e 8) (e 9) (e 10) (e 11) (e 12) (e 13)).getD 7 0=0 else keyAdd (e 0) (e 1) (e 2) (e 3) (e 4) (e 5) (e 6) (e 7) (e 8) (e 9) (e 10) (e 11) (e 12) (e 13)=[0,0,0,0,0,0,0,w]):RulesOk (kList te tb f0 f1 f2 f3 f4 f5 f6 f7 f8 f9 f10 f11 f12 f13 f14 f15 f16) e (rSum w):=by
 unfold rSum
 by_cases hw:w=0
 ·rw [if_pos hw] at h
  rw [if_pos (beq_iff_eq.2 hw)]
  refine ⟨fun _=>h,rTo_ok (κ:=kRKAdd f10) (κ':=kKAdd f2) rfl rfl fun _ j hj=>seven rfl hj⟩
 ·rw [if_neg hw] at h
  rw [if_neg (fun hc=>hw (beq_iff_eq.1 hc))]
  exact lit_all (κ:=kKAdd f2) rfl h
theorem rTim_ok {w:Int} (h:if w=0 then (keyMul (e 0) (e 1) (e 2) (e 3) (e 4) (e 5) (e 6) (e 14)).getD 7 0=0 else keyMul (e 0) (e 1) (e 2) (e 3) (e 4) (e 5) (e 6) (e 14)=[0,0,0,0,0,0,0,w]):RulesOk (kList te tb f0 f1 f2 f3 f4 f5 f6 f7 f8 f9 f10 f11 f12 f13 f14 f15 f16) e (rTim w):=by
 unfold rTim
 by_cases hw:w=0
 ·rw [if_pos hw] at h
  rw [if_pos (beq_iff_eq.2 hw)]
  refine ⟨fun _=>h,rTo_ok (κ:=kRKMul f11) (κ':=kKMul f3) rfl rfl fun _ j hj=>seven rfl hj⟩
 ·rw [if_neg hw] at h
  rw [if_neg (fun hc=>hw (beq_iff_eq.1 hc))]
  exact lit_all (κ:=kKMul f3) rfl h
theorem rByt_ok {z:Bool} (hz:z=decide (e 0=0)) (hok:keyOk (e 0) (e 1) (e 2) (e 3) (e 4) (e 5) (e 6)):RulesOk (kList te tb f0 f1 f2 f3 f4 f5 f6 f7 f8 f9 f10 f11 f12 f13 f14 f15 f16) e (rByt z):=by
 by_cases h0:e 0=0
 ·rw [hz,decide_eq_true h0]
  have hb:bytesR (e 1) (e 2) (e 3)=[enc (bytes1V (e 1) (e 2) (e 3)),0]:=bytesR_t (keyOk_0 hok h0).2.1
  refine ⟨fun _=>?_,fun _=>?_,fun _=>?_,trivial⟩
  ·show b2i (e 0 == 0)=1
   rw [h0]; rfl
  ·show enc (keyB (e 0) (e 1) (e 2) (e 3) (e 4) (e 5) (e 6))=(bytesR (e 1) (e 2) (e 3)).getD 0 0
   rw [hb,keyB,if_pos h0]; rfl
  ·show (bytesR (e 1) (e 2) (e 3)).getD 1 0=0
   rw [hb]; rfl
 ·rw [hz,decide_eq_false h0]
  refine ⟨fun _=>?_,fun _=>?_,fun _=>rfl,trivial⟩
  ·show b2i (e 0 == 0)=0
   rw [beq_eq_false_iff_ne.2 h0]; rfl
  ·show enc (keyB (e 0) (e 1) (e 2) (e 3) (e 4) (e 5) (e 6))=enc (bytesL (e 4) (e 5) (e 6))
   rw [keyB,if_neg h0]
theorem auOk_ok {z:Bool} {w v:Int} (h:((dec (e 16)).length:Int) ≤ 200) (hz:z=decide (e 0=0)) (hok:keyOk (e 0) (e 1) (e 2) (e 3) (e 4) (e 5) (e 6))
  (hw:w=@ite Int (¬ keyOk (e 7) (e 8) (e 9) (e 10) (e 11) (e 12) (e 13)) (Classical.propDecidable _) 5 (if e 0 ≠ e 7 then 2 else 0)) (hv:v=if ¬ e 14 < rOf (e 0) then 2 else 0):(auOk z w v).Ok (kList te tb f0 f1 f2 f3 f4 f5 f6 f7 f8 f9 f10 f11 f12 f13 f14 f15 f16) e:=by
 have add:if w=0 then (keyOk (e 7) (e 8) (e 9) (e 10) (e 11) (e 12) (e 13) ∧ e 0=e 7) else keyAdd (e 0) (e 1) (e 2) (e 3) (e 4) (e 5) (e 6) (e 7) (e 8) (e 9) (e 10) (e 11) (e 12) (e 13)=[0,0,0,0,0,0,0,w]:=by
  by_cases hb:keyOk (e 7) (e 8) (e 9) (e 10) (e 11) (e 12) (e 13)
  ·by_cases hs:e 0=e 7
   ·rw [if_neg (fun hc=>hc hb),if_neg (fun hc=>hc hs)] at hw
    rw [if_pos hw]; exact ⟨hb,hs⟩
   ·rw [if_neg (fun hc=>hc hb),if_pos hs] at hw
    rw [if_neg (by omega),hw]
    unfold keyAdd
    rw [if_neg (fun hc=>hc.elim (fun k=>k hok) (fun k=>k hb)),if_pos hs]
  ·rw [if_pos hb] at hw
   rw [if_neg (by omega),hw]
   exact if_pos (.inr hb)
 have mul:if v=0 then e 14 < rOf (e 0) else keyMul (e 0) (e 1) (e 2) (e 3) (e 4) (e 5) (e 6) (e 14)=[0,0,0,0,0,0,0,v]:=by
  by_cases hn:e 14 < rOf (e 0)
  ·rw [if_neg (fun hc=>hc hn)] at hv
   rw [if_pos hv]; exact hn
  ·rw [if_pos hn] at hv
   rw [if_neg (by omega),hv]
   unfold keyMul
   rw [if_neg (fun hc=>hc hok),if_pos hn]
 have neg:keyNeg (e 0) (e 1) (e 2) (e 3) (e 4) (e 5) (e 6)=if e 0=0 then [0,e 1,(-e 2) % bP,e 3,0,0,0,0] else [e 0,0,0,0,e 4,(-e 5) % pL (e 0),e 6,0]:=by unfold keyNeg; rw [if_neg (fun hc=>hc hok)]
 refine ⟨⟨rLong_ok (by rw [decide_eq_false (by omega)]),rulesOk_app rSame_ok (rulesOk_app (lit_all (κ:=kKeyChk f8) rfl ?_) (rulesOk_app (lit_all (κ:=kKeyChk f9) rfl ?_) (rulesOk_app (lit_all (κ:=kWrong f1) rfl ?_) (rulesOk_app (rSum_ok ?_) (rulesOk_app (rTim_ok ?_) (rulesOk_app (rByt_ok hz hok) ⟨fun _=>?_,rTo_ok (κ:=kRKNeg f12) (κ':=kKNeg f4) rfl rfl fun _ j hj=>seven rfl hj⟩))))))⟩,reqs_okK h ⟨hok,fun h0=>(keyOk_0 hok h0).2.1.1.1,?_⟩,triv_okK,⟨fun _=>congrArg (fun x=>[x]) (bj_t rfl),trivial⟩⟩
 ·exact congrArg (fun x=>[x]) (bj_t hok)
 ·exact congrArg (fun x=>[x]) (bj_t hok)
 ·show (kWrong f1).sem [e 0,e 1,e 2,e 3,e 4,e 5,e 6,e 7,e 8,e 9,e 10,e 11,e 12,e 13,e 14]=[w,v]
  rw [hw,hv]
  show @wrongV (keyOk (e 0) (e 1) (e 2) (e 3) (e 4) (e 5) (e 6)) (keyOk (e 7) (e 8) (e 9) (e 10) (e 11) (e 12) (e 13)) (Classical.propDecidable _) (Classical.propDecidable _) (e 0) (e 7) (e 14)=_
  unfold wrongV
  rw [if_neg (not_not_intro hok)]
  by_cases hb:keyOk (e 7) (e 8) (e 9) (e 10) (e 11) (e 12) (e 13)
  ·rw [if_neg (not_not_intro hb),if_neg (not_not_intro hb)]
  ·rw [if_pos hb,if_pos hb]
 ·by_cases hw0:w=0
  ·rw [if_pos hw0] at add ⊢
   unfold keyAdd
   rw [if_neg (fun hc=>hc.elim (fun k=>k hok) (fun k=>k add.1)),if_neg (fun hc=>hc add.2)]
   split <;> rfl
  ·rw [if_neg hw0] at add ⊢; exact add
 ·by_cases hv0:v=0
  ·rw [if_pos hv0] at mul ⊢
   unfold keyMul
   rw [if_neg (fun hc=>hc hok),if_neg (fun hc=>hc mul)]
   split <;> rfl
  ·rw [if_neg hv0] at mul ⊢; exact mul
 ·show (keyNeg (e 0) (e 1) (e 2) (e 3) (e 4) (e 5) (e 6)).getD 7 0=0
  rw [neg]; split <;> rfl
 ·have r3:ReqsOk (kList te tb f0 f1 f2 f3 f4 f5 f6 f7 f8 f9 f10 f11 f12 f13 f14 f15 f16) e (if z then [] else [(16,.var 0 :: vars 4 3)]):=by
   by_cases h0:e 0=0
   ·rw [hz,decide_eq_true h0]; trivial
   ·rw [hz,decide_eq_false h0]
    obtain ⟨k1,k2,k3⟩:=keyOk_L hok h0
    exact ⟨⟨k1,k3.1⟩,trivial⟩
  have r2:ReqsOk (kList te tb f0 f1 f2 f3 f4 f5 f6 f7 f8 f9 f10 f11 f12 f13 f14 f15 f16) e ((if v == 0 then [(11,kn8)] else []) ++ (if z then [] else [(16,.var 0 :: vars 4 3)])):=by
   by_cases hv0:v=0
   ·rw [if_pos hv0] at mul
    rw [if_pos (beq_iff_eq.2 hv0)]
    exact ⟨⟨hok,mul⟩,r3⟩
   ·rw [if_neg (fun hc=>hv0 (beq_iff_eq.1 hc))]; exact r3
  by_cases hw0:w=0
  ·rw [if_pos hw0] at add
   rw [if_pos (beq_iff_eq.2 hw0)]
   exact ⟨⟨hok,add.1,add.2⟩,r2⟩
  ·rw [if_neg (fun hc=>hw0 (beq_iff_eq.1 hc))]; exact r2
theorem keys_au (P:Au → Prop) (h1:P auLong) (h2:P auNo) (h3:∀ z w v,(w=0 ∨ w=2 ∨ w=5) → (v=0 ∨ v=2) → P (auOk z w v)) (e:Nat → Int):∃ c,(∀ e',(∀ i,i < 17 → e' i=e i) → c.Ok (kList te tb f0 f1 f2 f3 f4 f5 f6 f7 f8 f9 f10 f11 f12 f13 f14 f15 f16) e') ∧ P c:=by
 have eqs:∀ e':Nat → Int,(∀ i,i < 17 → e' i=e i) → (e' 0=e 0 ∧ e' 1=e 1 ∧ e' 2=e 2 ∧ e' 3=e 3 ∧ e' 4=e 4 ∧ e' 5=e 5 ∧ e' 6=e 6) ∧ (e' 7=e 7 ∧ e' 8=e 8 ∧ e' 9=e 9 ∧ e' 10=e 10 ∧ e' 11=e 11 ∧ e' 12=e 12 ∧ e' 13=e 13) ∧ e' 14=e 14 ∧ e' 16=e 16:=fun e' h=>⟨⟨h 0 (by decide),h 1 (by decide),h 2 (by decide),h 3 (by decide),h 4 (by decide),h 5 (by decide),h 6 (by decide)⟩,⟨h 7 (by decide),h 8 (by decide),h 9 (by decide),h 10 (by decide),h 11 (by decide),h 12 (by decide),h 13 (by decide)⟩,h 14 (by decide),h 16 (by decide)⟩
 by_cases hl:((dec (e 16)).length:Int) > 200
 ·exact ⟨auLong,fun e' he=>auLong_ok (by rw [he 16 (by decide)]; exact hl),h1⟩
 by_cases hok:keyOk (e 0) (e 1) (e 2) (e 3) (e 4) (e 5) (e 6)
 ·refine ⟨auOk (decide (e 0=0)) (@ite Int (¬ keyOk (e 7) (e 8) (e 9) (e 10) (e 11) (e 12) (e 13)) (Classical.propDecidable _) 5 (if e 0 ≠ e 7 then 2 else 0)) (if ¬ e 14 < rOf (e 0) then 2 else 0),fun e' he=>?_,h3 _ _ _ ?_ ?_⟩
  ·obtain ⟨⟨q0,q1,q2,q3,q4,q5,q6⟩,⟨q7,q8,q9,q10,q11,q12,q13⟩,q14,q16⟩:=eqs e' he
   refine auOk_ok ?_ ?_ ?_ ?_ ?_
   ·rw [q16]; omega
   ·rw [q0]
   ·rw [q0,q1,q2,q3,q4,q5,q6]; exact hok
   ·rw [q0,q7,q8,q9,q10,q11,q12,q13]
   ·rw [q0,q14]
  ·split
   ·exact .inr (.inr rfl)
   ·split
    ·exact .inr (.inl rfl)
    ·exact .inl rfl
  ·split
   ·exact .inr rfl
   ·exact .inl rfl
 ·refine ⟨auNo,fun e' he=>?_,h2⟩
  obtain ⟨⟨q0,q1,q2,q3,q4,q5,q6⟩,_,_,q16⟩:=eqs e' he
  exact auNo_ok (by rw [q16]; omega) (by rw [q0,q1,q2,q3,q4,q5,q6]; exact hok)
end
end Go.Sx

namespace Go.Sx
open Go
def kKeys11 (f:FuncId):K:={fn:=f,ext:=false,ins:=[.agg lsKey,.agg lsKey,iN,iI,.lst (.int .u8)],outs:=[oB],pre:=fun _=>True,sem:=fun _=>[1] }
end Go.Sx
