/- Part No of the proof. -/
import Derived.Test.YtjkkfifojkfnjaaGreatDoorNn
import Derived.Test.YtjkkfifojkfnjaaGreatDoorNk
set_option linter.unusedVariables false
set_option linter.unusedSimpArgs false
namespace Go.Cx
open Go Go.Sx Go.RowKit
section
variable {P:Program} {gls:Gls} {Or:Oracle}
theorem getD_rep (n i:Nat):(List.replicate n false).getD i false=false:=by
 rw [List.getD_eq_getElem?_getD,List.getElem?_replicate]
 split <;> rfl
theorem notLst_rep (n i:Nat):¬ Lst (Array.replicate n false) i:=by
 unfold Lst
 rw [Array.getD_eq_getD_getElem?,Array.getElem?_replicate]
 split <;> simp
theorem cnt_rep (n:Nat):cnt (Array.replicate n false)=n:=by
 unfold cnt
 simp
theorem RI.start {ops:Array Oper} {Z S:Nat → Prop} {F:Nat → Option Obj} {w0 w:World} {ρ:Rho} {σ:St} {a:Act} (h:Rep Z S F w0 ρ All σ a w) (hs:shapeOk ops.toList=true) :
  RI P ops.toList Z S F w0 σ.next (bigsOf ops.toList) (List.replicate ops.size false) none σ ρ (Array.replicate ops.size false) a w where
 rep:=h.mono fun t _=>trivial
 dl:=by simp
 ll:=by simp
 clo:=fun j o _ hj=>absurd hj (notLst_rep _ _)
 le:=fun i hi=>absurd hi (notLst_rep _ _)
 gl:=fun i hi hg=>⟨fun k=>absurd k (notLst_rep _ _),fun k=>absurd (mem_bigs.2 ⟨hi,hg⟩) k⟩
 gd:=fun i hi hg hd=>by rw [getD_rep] at hd; cases hd
 gb:=fun i hi=>mem_bigs.1 hi
 nd:=bigs_nodup _
 ch:=shape_chain hs
 la:=fun b hb=>by cases hb
 z:=fun id hz=>(h.wr.free id hz).2
 fresh:=fun i o t id _ _ _ hd=>by rw [getD_rep] at hd; cases hd
theorem opWp_list {all:Array Oper} {o:Oper} {rest:List Oper} {Q:Exit → Act → World → Prop} {a:Act} {w:World} (h:opWp P all o (wpList P all Q rest) Q a w):wpList P all Q (o :: rest) a w:=by
 unfold wpList
 unfold opWp at h
 split
 ·rename_i hw; rw [if_pos hw] at h; exact .inl h
 ·rename_i hw; rw [if_neg hw] at h; exact h
theorem sound (hm:P.follows .mixedOrders=true) (hO:OrOk P gls Or):∀ n,SndJ P gls Or n ∧ SndO P gls Or n ∧ SndR P gls Or n:=by
 intro n
 induction n with
 | zero =>
  refine ⟨fun Z S F w0 ρ job σ k a w Q _ _ hh _=>?_,fun Z S F w0 ρ L all o σ k a w K Q _ _ _ _ hh _=>?_,fun Z S F w0 ρ ops nx0 bigs d last σ k listed a w Q _ _ _ hh _=>?_⟩
  ·simp [exec] at hh
  ·simp [exec] at hh
  ·simp [exec] at hh
 | succ n ih =>
  obtain ⟨ihJ,ihO,ihR⟩:=ih
  refine ⟨?_,op_snd ihJ hO,reg_snd ihO ihR⟩
  intro Z S F w0 ρ job σ k a w Q hT hR hh hQ
  cases job with
  | op all o=>exact trivial
  | reg ops bigs d last nx0=>exact trivial
  | rounds c =>
   show Code.rounds P c Q (n + 1) a w
   rw [rounds_succ]
   simp only [exec] at hh
   refine ihJ Z S F w0 ρ (.code c) σ _ a w _ hT hR hh fun e σ' ρ' a' w' x1 x2 x3=>?_
   cases e with
   | normal=>exact ihJ Z S F w0 ρ' (.rounds c) σ' k a' w' Q hT x2 x3 fun e σ'' ρ'' a'' w'' y1 y2 y3=>hQ e σ'' ρ'' a'' w'' (x1.trans y1) y2 y3
   | exit id=>exact hQ (.exit id) σ' ρ' a' w' x1 x2 x3
   | ret=>exact hQ .ret σ' ρ' a' w' x1 x2 x3
  | ops all l =>
   show wpList P all Q l a w
   cases l with
   | nil=>simp only [exec] at hh; exact hQ .normal σ ρ a w (Ext.refl ρ) hR hh
   | cons o rest =>
    simp only [exec] at hh
    refine opWp_list (ihO Z S F w0 ρ All all o σ _ a w _ Q hT hR (fun _ _=>trivial) (fun _ _ _ _ _=>trivial) hh fun σ' ρ' a' w' x1 x2 _ x3=>?_)
    exact ihJ Z S F w0 ρ' (.ops all rest) σ' k a' w' Q hT (x2.mono fun t ht=>.inl ht) x3 fun e σ'' ρ'' a'' w'' y1 y2 y3=>hQ e σ'' ρ'' a'' w'' (x1.trans y1) y2 y3
  | code c =>
   show c.wp P Q a w
   cases c with
   | skip=>simp only [exec] at hh; exact wp_skip (hQ .normal σ ρ a w (Ext.refl ρ) hR hh)
   | label l=>simp only [exec] at hh; exact wp_label (hQ .normal σ ρ a w (Ext.refl ρ) hR hh)
   | exit id=>simp only [exec] at hh; exact wp_exit (hQ (.exit id) σ ρ a w (Ext.refl ρ) hR hh)
   | ret=>simp only [exec] at hh; exact wp_ret (hQ .ret σ ρ a w (Ext.refl ρ) hR hh)
   | seq x y =>
    simp only [exec] at hh
    refine wp_seq (ihJ Z S F w0 ρ (.code x) σ _ a w _ hT hR hh fun e σ' ρ' a' w' x1 x2 x3=>?_)
    cases e with
    | normal=>exact ihJ Z S F w0 ρ' (.code y) σ' k a' w' Q hT x2 x3 fun e σ'' ρ'' a'' w'' y1 y2 y3=>hQ e σ'' ρ'' a'' w'' (x1.trans y1) y2 y3
    | exit id=>exact hQ (.exit id) σ' ρ' a' w' x1 x2 x3
    | ret=>exact hQ .ret σ' ρ' a' w' x1 x2 x3
   | block id c =>
    simp only [exec] at hh
    refine wp_block (ihJ Z S F w0 ρ (.code c) σ _ a w _ hT hR hh fun e σ' ρ' a' w' x1 x2 x3=>?_)
    cases e with
    | normal=>exact hQ .normal σ' ρ' a' w' x1 x2 x3
    | ret=>exact hQ .ret σ' ρ' a' w' x1 x2 x3
    | exit id' =>
     show if id'=id then Q .normal a' w' else Q (.exit id') a' w'
     simp only at x3
     by_cases hid:id'=id
     ·rw [if_pos hid]; rw [if_pos (by simpa using hid)] at x3; exact hQ .normal σ' ρ' a' w' x1 x2 x3
     ·rw [if_neg hid]; rw [if_neg (by simpa using hid)] at x3; exact hQ (.exit id') σ' ρ' a' w' x1 x2 x3
   | cond c x y =>
    simp only [exec] at hh
    have key:∀ b,boolOf σ c=some b → a.eval c=.bool b:=by
     intro b hb
     unfold boolOf at hb
     split at hb
     ·rename_i b' hc
      cases hb
      have hv:σ.val c=some (.vl (.one (.bool b))):=by
       unfold St.c at hc
       split at hc
       ·rename_i cv hv2; cases hc; exact hv2
       ·cases hc
      exact hR.val (fun _ _=>trivial) hv
     ·cases hb
    cases hb:boolOf σ c with
    | none=>rw [hb] at hh; cases hh
    | some b =>
     rw [hb] at hh
     cases b with
     | true=>exact wp_cond_true (key _ hb) (ihJ Z S F w0 ρ (.code x) σ k a w Q hT hR hh hQ)
     | false=>exact wp_cond_false (key _ hb) (ihJ Z S F w0 ρ (.code y) σ k a w Q hT hR hh hQ)
   | loop c=>simp only [exec] at hh; exact wp_loop_rounds n (ihJ Z S F w0 ρ (.rounds c) σ k a w Q hT hR hh hQ)
   | region id ops draw =>
    simp only [exec] at hh
    cases draw with
    | false=>exact wp_region_list (ihJ Z S F w0 ρ (.ops ops ops.toList) σ k a w Q hT hR hh hQ)
    | true =>
     simp only [if_true] at hh
     split at hh
     ·rename_i hs
      refine wp_region_any hm ?_
      have hR':Rep Z S F w0 ρ All σ a w.drew:=⟨hR.defers,hR.size,hR.nt,hR.tmp,hR.gl,hR.wr.drew⟩
      have:=ihR Z S F w0 ρ ops.toList σ.next (bigsOf ops.toList) (List.replicate ops.size false) none σ k (Array.replicate ops.size false) a w.drew Q hT hs (RI.start hR' hs) hh fun σ' ρ' a' w' x1 x2 x3=>hQ .normal σ' ρ' a' w' x1 x2 x3
      rw [cnt_rep] at this
      exact this
     ·cases hh
   | _=>simp [exec] at hh
end
def u64s:List CV->Option (List Int)
 | []=>some []
 | .int .u64 n::r=>if hasB .u64 n then (u64s r).map (n :: ·) else none
 | _=>none
def leafIn:L->List CV->Option (List Int×List CV)
 | .int k,.int k' n::r=>if k==k'&&hasB k n then some ([n],r) else none
 | .bool,.bool b::r=>some ([if b then 1 else 0],r)
 | .num,a::b::c::d::e::f::r=>match u64s [a,b,c,d,e,f] with
  | some l=>some ([joinE l],r)
  | none=>none
 | _,_=>none
def leavesIn:List L->List CV->Option (List Int×List CV)
 | [],cs=>some ([],cs)
 | l::ls,cs=>match leafIn l cs with
  | some (x,r)=>match leavesIn ls r with
   | some (xs,r')=>some (x++xs,r')
   | none=>none
  | none=>none
def intsOf (k:IntKind):List CV->Option (List Int)
 | []=>some []
 | .int k' n::r=>if k==k'&&hasB k n then (intsOf k r).map (n :: ·) else none
 | _=>none
def capOk (len:Nat):Option Nat->Bool | none=>true | some c=>Nat.ble len c
def lstIn (Y:St) (k:IntKind):CV->Option (List Int)
 | .nilsl=>some []
 | .sl id off len cap=>match Y.ob id with
  | some (.cells row _ _)=>if capOk len cap&&Nat.ble len 65536 then match row.gets off len with
    | some l=>intsOf k l
    | none=>none
   else none
  | _=>none
 | _=>none
def shIn (Y:St):Sh->V->Option (List W)
 | .one l,.one c=>match leavesIn [l] [c] with | some (xs,[])=>some (xs.map .wi) | _=>none
 | .agg ls,.agg cs=>match leavesIn ls cs with | some (xs,[])=>some (xs.map .wi) | _=>none
 | .lst (.int k),.one c=>(lstIn Y k c).map fun l=>[.wl l]
 | _,_=>none
def insIn (Y:St):List Sh->List V->Option (List W)
 | [],[]=>some []
 | s::ss,v::vs=>match shIn Y s v,insIn Y ss vs with
  | some xs,some ys=>some (xs++ys)
  | _,_=>none
 | _,_=>none
def leafOut:L->W->Option (List CV)
 | .int k,.wi x=>some [.int k x]
 | .bool,.wi x=>some [.bool (!intEq x 0)]
 | .num,.wi x=>some ((List.range 6).map fun j=>CV.int .u64 (x/p64 j%18446744073709551616))
 | .arr k _,.wl l=>some (l.map fun (z:Int)=>CV.int k z)
 | _,_=>none
def leavesOut:List L->List W->Option (List CV)
 | [],[]=>some []
 | l::ls,x::xs=>match leafOut l x,leavesOut ls xs with
  | some a,some b=>some (a++b)
  | _,_=>none
 | _,_=>none
def ohOut:Oh->List W->Option V
 | .one l,xs=>match leavesOut [l] xs with | some [c]=>some (.one c) | _=>none
 | .agg ls,xs=>(leavesOut ls xs).map .agg
 | _,_=>none
def outsOut:List Oh->List W->Option (List V)
 | [],[]=>some []
 | s::ss,xs=>match ohOut s (xs.take (lcount s.leaves)),outsOut ss (xs.drop (lcount s.leaves)) with
  | some v,some vs=>some (v::vs)
  | _,_=>none
 | _,_=>none
def askL:List Or1->Oracle
 | [],_,_,_=>none
 | o::r,Y,f,args=>if Nat.beq o.X.fn f then
   match insIn Y o.X.ins args with
   | some xs=>match o.f xs with
    | some os=>match outsOut o.X.outs os with
     | some vs=>some (Y,retS vs)
     | none=>none
    | none=>askL r Y f args
   | none=>askL r Y f args
  else askL r Y f args
section
variable {ρ:Rho}
theorem CRs.cons_inv {c:CV} {cs:List CV} {vs:List Value} (h:CRs ρ (c::cs) vs):∃ v r,vs=v::r/\c.R ρ v/\CRs ρ cs r:=by
 cases vs with
 | nil=>exact h.elim
 | cons v r=>exact ⟨v,r,rfl,h.1,h.2⟩
theorem u64_ok {c:CV} {r:List CV} {l:List Int} (h:u64s (c::r)=some l):∃ n l',c=.int .u64 n/\l=n::l'/\has .u64 n/\u64s r=some l':=by
 cases c with
 | int k n =>
  cases k <;> simp only [u64s] at h <;> try (cases h;done)
  split at h
  ·rename_i hb
   cases hr:u64s r with
   | none=>rw [hr] at h;cases h
   | some l'=>rw [hr] at h;cases h;exact ⟨n,l',rfl,rfl,hasB_has hb,rfl⟩
  ·cases h
 | _=>simp [u64s] at h
theorem leafIn_ok {l:L} {cs r:List CV} {xs:List Int} {vs:List Value} (h:leafIn l cs=some (xs,r)) (hr:CRs ρ cs vs) :
  ∃ v1 v2,vs=v1++v2/\CRs ρ r v2/\(∀ ls ys,lvals (l::ls) (xs++ys)=v1++lvals ls ys)/\(∀ ls ys,lhas ls ys->lhas (l::ls) (xs++ys))/\xs.length=l.n:=by
 unfold leafIn at h
 split at h
 ·rename_i k k' n r'
  split at h
  ·rename_i hb
   cases h
   simp only [Bool.and_eq_true,beq_iff_eq] at hb
   obtain ⟨rfl,hb⟩:=hb
   obtain ⟨v,q,rfl,h1,h2⟩:=CRs.cons_inv hr
   have h1:v=.int k n:=h1
   subst h1
   exact ⟨[_],q,rfl,h2,fun _ _=>rfl,fun _ _ hh=>⟨hasB_has hb,hh⟩,rfl⟩
  ·cases h
 ·rename_i b r'
  cases h
  obtain ⟨v,q,rfl,h1,h2⟩:=CRs.cons_inv hr
  have h1:v=.bool b:=h1
  subst h1
  refine ⟨[_],q,rfl,h2,fun ls ys=>?_,fun _ _ hh=>⟨by cases b <;> simp,hh⟩,rfl⟩
  show Value.bool _::lvals ls ys=_
  cases b <;> rfl
 ·rename_i a b c d e f r'
  split at h
  ·rename_i l hl
   cases h
   obtain ⟨a,_,rfl,rfl,h1,hl⟩:=u64_ok hl
   obtain ⟨b,_,rfl,rfl,h2,hl⟩:=u64_ok hl
   obtain ⟨c,_,rfl,rfl,h3,hl⟩:=u64_ok hl
   obtain ⟨d,_,rfl,rfl,h4,hl⟩:=u64_ok hl
   obtain ⟨e,_,rfl,rfl,h5,hl⟩:=u64_ok hl
   obtain ⟨f,_,rfl,rfl,h6,hl⟩:=u64_ok hl
   cases hl
   obtain ⟨v1,q,rfl,e1,hr⟩:=CRs.cons_inv hr
   obtain ⟨v2,q,rfl,e2,hr⟩:=CRs.cons_inv hr
   obtain ⟨v3,q,rfl,e3,hr⟩:=CRs.cons_inv hr
   obtain ⟨v4,q,rfl,e4,hr⟩:=CRs.cons_inv hr
   obtain ⟨v5,q,rfl,e5,hr⟩:=CRs.cons_inv hr
   obtain ⟨v6,q,rfl,e6,hr6⟩:=CRs.cons_inv hr
   have e1:v1=.int .u64 a:=e1
   have e2:v2=.int .u64 b:=e2
   have e3:v3=.int .u64 c:=e3
   have e4:v4=.int .u64 d:=e4
   have e5:v5=.int .u64 e:=e5
   have e6:v6=.int .u64 f:=e6
   subst e1 e2 e3 e4 e5 e6
   have hb:∀ {n:Int},has .u64 n->0<=n/\n<18446744073709551616:=fun {n} hn=>by
    have:=hn.1;have:=hn.2
    simp only [lo,hi] at *
    omega
   obtain ⟨k1,k2⟩:=limbs_join (hb h1) (hb h2) (hb h3) (hb h4) (hb h5) (hb h6)
   refine ⟨[_,_,_,_,_,_],q,rfl,hr6,fun ls ys=>?_,fun ls ys hh=>⟨k2,hh⟩,rfl⟩
   show limbs _++lvals ls ys=_
   rw [k1]
  ·cases h
 ·cases h
theorem leavesIn_ok:∀ {ls:List L} {cs r:List CV} {xs:List Int} {vs:List Value},leavesIn ls cs=some (xs,r)->CRs ρ cs vs->∃ v1 v2,vs=v1++v2/\CRs ρ r v2/\lvals ls xs=v1/\lhas ls xs/\xs.length=lcount ls
 | [],cs,r,xs,vs,h,hr=>by
  simp only [leavesIn,Option.some.injEq,Prod.mk.injEq] at h
  obtain ⟨rfl,rfl⟩:=h
  exact ⟨[],vs,rfl,hr,rfl,trivial,rfl⟩
 | l::ls,cs,r,xs,vs,h,hr=>by
  unfold leavesIn at h
  split at h
  ·rename_i x r1 h1
   split at h
   ·rename_i ys r2 h2
    cases h
    obtain ⟨v1,v2,rfl,e2,e3,e4,e5⟩:=leafIn_ok h1 hr
    obtain ⟨u1,u2,rfl,f2,f3,f4,f5⟩:=leavesIn_ok h2 e2
    exact ⟨v1++u1,u2,by simp,f2,by rw [e3,f3],e4 _ _ f4,by simp [lcount,e5,f5]⟩
   ·cases h
  ·cases h
theorem wi_toI (xs:List Int):(xs.map W.wi).map W.toI=xs:=by
 rw [List.map_map];exact List.map_id'' (fun _=>rfl) xs
theorem intsOf_ok {k:IntKind}:∀ {cs:List CV} {l:List Int} {vs:List Value},intsOf k cs=some l->CRs ρ cs vs->vs=l.map (.int k)/\(∀ z∈l,has k z)/\l.length=cs.length
 | [],l,vs,h,hr=>by
  cases h
  cases vs with
  | nil=>exact ⟨rfl,(fun _ h=>by cases h),rfl⟩
  | cons _ _=>exact hr.elim
 | c::cs,l,vs,h,hr=>by
  obtain ⟨v,r,rfl,h1,h2⟩:=CRs.cons_inv hr
  unfold intsOf at h
  split at h
  ·rename_i e;cases e
  ·rename_i k' n r' e
   cases e
   split at h
   ·rename_i hb
    simp only [Bool.and_eq_true,beq_iff_eq] at hb
    obtain ⟨rfl,hb⟩:=hb
    cases hq:intsOf k cs with
    | none=>rw [hq] at h;cases h
    | some l' =>
     rw [hq] at h;cases h
     obtain ⟨e1,e2,e3⟩:=intsOf_ok hq h2
     have h1:v=.int k n:=h1
     refine ⟨by rw [h1,e1];rfl,fun z hz=>?_,by simp [e3]⟩
     rcases List.mem_cons.1 hz with rfl | hz
     ·exact hasB_has hb
     ·exact e2 z hz
   ·cases h
  ·cases h
theorem flat_int (k:IntKind) (l:List Int):flat (.int k) l=l.map (.int k):=by
 induction l with
 | nil=>rfl
 | cons x l ih=>unfold flat at *;rw [List.flatMap_cons,ih];rfl
theorem lstIn_ok {Z S:Nat->Prop} {F:Nat->Option Obj} {w0 w:World} {Y:St} (hw:WR Z S F w0 ρ Y.heap Y.next w) {k:IntKind} {c:CV} {l:List Int} {u:Value} (h:lstIn Y k c=some l) (hr:c.R ρ u):(LK.int k).hasL l/\RoRow w w (.int k) u l:=by
 unfold lstIn at h
 split at h
 ·cases h
  exact ⟨⟨by simp,fun _ h=>by cases h⟩,.inl ⟨hr,rfl⟩⟩
 ·rename_i id off len cap
  split at h
  ·rename_i row own z hob
   split at h
   ·rename_i hc
    simp only [Bool.and_eq_true] at hc
    obtain ⟨hc,hlen⟩:=hc
    have hlen:len<=65536:=by simpa using hlen
    split at h
    ·rename_i cs hg
     have hgl:=(Row.gets_ok _ _ _ _ hg).1
     have gen:∀ {p:Pl},ρ id=some p->∀ {cp:Nat},u=.slice (some (p.at off)) len cp->len<=cp->(LK.int k).hasL l/\RoRow w w (.int k) u l:=by
      intro p hp cp hu hcp
      obtain ⟨vs,g1,g2,g3⟩:=hw.reads hp hob hg
      obtain ⟨e1,e2,e3⟩:=intsOf_ok h g2
      have hll:l.length=len:=by rw [e3,hgl]
      refine ⟨⟨by omega,e2⟩,.inr ⟨p.at off,cp,by rw [hll];exact hu,.inr (hw.lt id p hp).2,by omega,fun j u' hj=>?_⟩⟩
      rw [flat_int] at hj
      exact g3 j u' (by rw [e1];exact hj)
     cases cap with
     | some cp =>
      obtain ⟨p,h1,h2⟩:=hr
      exact gen h1 h2 (by simpa [capOk] using hc)
     | none =>
      obtain ⟨p,a,cp,h1,h2,h3,h4⟩:=hr
      rcases h4 with ⟨rfl,_⟩ | ⟨h5,h6⟩
      ·exact gen h1 h2 h3
      ·subst h5
       have hcs:cs=[]:=by cases cs with
        | nil=>rfl
        | cons _ _=>simp at hgl
       subst hcs
       cases h
       exact ⟨⟨by simp,fun _ h=>by cases h⟩,.inr ⟨a,cp,h2,.inl rfl,h3,fun j u' hj=>by simp [flat] at hj⟩⟩
    ·cases h
   ·cases h
  ·cases h
 ·cases h
theorem shIn_ok {Z S:Nat->Prop} {F:Nat->Option Obj} {w0 w:World} {Y:St} (hw:WR Z S F w0 ρ Y.heap Y.next w) {s:Sh} {v:V} {xs:List W} {u:Value} (h:shIn Y s v=some xs) (hr:v.R ρ u):lhas s.leaves (xs.map W.toI)/\s.rel w (xs.map W.toI) u/\(xs.map W.toI).length=lcount s.leaves:=by
 unfold shIn at h
 split at h
 ·rename_i l c
  split at h
  ·rename_i ys h1
   cases h
   rw [wi_toI]
   obtain ⟨v1,v2,e1,e2,e3,e4,e5⟩:=leavesIn_ok h1 (show CRs ρ [c] [u] from ⟨hr,trivial⟩)
   have:v2=[]:=by cases v2 with
    | nil=>rfl
    | cons _ _=>exact e2.elim
   subst this
   refine ⟨e4,?_,e5⟩
   show [u]=lvals [l] ys
   rw [e3,e1];simp
  ·cases h
 ·rename_i ls cs
  split at h
  ·rename_i ys h1
   cases h
   rw [wi_toI]
   obtain ⟨us,rfl,hr⟩:=hr
   obtain ⟨v1,v2,e1,e2,e3,e4,e5⟩:=leavesIn_ok h1 hr
   have:v2=[]:=by cases v2 with
    | nil=>rfl
    | cons _ _=>exact e2.elim
   subst this
   refine ⟨e4,?_,e5⟩
   show _=Value.agg (lvals ls ys).toArray
   rw [e3,e1];simp
  ·cases h
 ·rename_i k c
  cases hq:lstIn Y k c with
  | none=>rw [hq] at h;cases h
  | some l =>
   rw [hq] at h;cases h
   obtain ⟨e1,e2⟩:=lstIn_ok hw hq hr
   refine ⟨⟨?_,trivial⟩,?_,rfl⟩
   ·show (LK.int k).hasL (dec (enc l))
    rw [dec_enc];exact e1
   ·show RoRow w w (.int k) u (dec (enc l))
    rw [dec_enc];exact e2
 ·cases h
theorem insIn_ok {Z S:Nat->Prop} {F:Nat->Option Obj} {w0 w:World} {Y:St} (hw:WR Z S F w0 ρ Y.heap Y.next w):∀ {ss:List Sh} {vs:List V} {xs:List W} {us:List Value},insIn Y ss vs=some xs->VRs ρ vs us->insRel w ss (xs.map W.toI) us
 | [],[],xs,us,h,hr=>by
  cases h
  cases us with
  | nil=>exact ⟨rfl,rfl⟩
  | cons _ _=>exact hr.elim
 | [],_::_,xs,us,h,hr=>by cases h
 | _::_,[],xs,us,h,hr=>by cases h
 | s::ss,v::vs,xs,us,h,hr=>by
  unfold insIn at h
  split at h
  ·rename_i ys zs h1 h2
   cases h
   cases us with
   | nil=>exact hr.elim
   | cons u us =>
    obtain ⟨e1,e2,e3⟩:=shIn_ok hw h1 hr.1
    rw [List.map_append]
    have ht:(ys.map W.toI++zs.map W.toI).take (lcount s.leaves)=ys.map W.toI:=by rw [<- e3];simp
    have hd:(ys.map W.toI++zs.map W.toI).drop (lcount s.leaves)=zs.map W.toI:=by rw [<- e3];simp
    refine ⟨by rw [ht];exact e1,by rw [ht];exact e2,?_⟩
    rw [hd];exact insIn_ok hw h2 hr.2
  ·cases h
theorem ints_R (k:IntKind):∀ (l:List Int),CRs ρ (l.map fun (z:Int)=>CV.int k z) (l.map (Value.int k))
 | []=>trivial
 | _::l=>⟨rfl,ints_R k l⟩
theorem leafOut_ok {l:L} {x:W} {cs:List CV} (h:leafOut l x=some cs) (ls:List L) (xs:List Int):∃ vs,lvals (l::ls) (x.toI::xs)=vs++lvals ls xs/\CRs ρ cs vs:=by
 unfold leafOut at h
 split at h
 ·cases h;exact ⟨[_],rfl,rfl,trivial⟩
 ·rename_i x
  cases h
  refine ⟨[_],rfl,?_,trivial⟩
  show Value.bool _=Value.bool _
  congr 1
  show decide (x≠0)=_
  by_cases hx:x=0
  ·subst hx;rfl
  ·have:intEq x 0=false:=by
    cases hq:intEq x 0 with
    | false=>rfl
    | true=>rw [intEq_ok] at hq;exact absurd (by simpa using hq) hx
   rw [this];simp [hx]
 ·rename_i x
  cases h;exact ⟨limbs x,rfl,rfl,rfl,rfl,rfl,rfl,rfl,trivial⟩
 ·rename_i k n l
  cases h
  refine ⟨l.map (.int k),?_,ints_R k l⟩
  show (dec (enc l)).map (.int k)++lvals ls xs=_
  rw [dec_enc]
 ·cases h
theorem leavesOut_ok:∀ {ls:List L} {xs:List W} {cs:List CV},leavesOut ls xs=some cs->CRs ρ cs (lvals ls (xs.map W.toI))
 | [],[],cs,h=>by cases h;trivial
 | [],_::_,cs,h=>by cases h
 | _::_,[],cs,h=>by cases h
 | l::ls,x::xs,cs,h=>by
  unfold leavesOut at h
  split at h
  ·rename_i a b h1 h2
   cases h
   obtain ⟨vs,e1,e2⟩:=leafOut_ok (ρ:=ρ) h1 ls (xs.map W.toI)
   rw [List.map_cons,e1];exact e2.app (leavesOut_ok h2)
  ·cases h
theorem ohOut_ok {s:Oh} {xs:List W} {v:V} {u:Value} {n:Nat} {w:World} (h:ohOut s xs=some v) (hr:s.rel n w (xs.map W.toI) u):v.R ρ u:=by
 unfold ohOut at h
 split at h
 ·rename_i l
  split at h
  ·rename_i c hc
   cases h
   have h1:=leavesOut_ok (ρ:=ρ) hc
   have hr:[u]=lvals [l] (xs.map W.toI):=hr
   rw [<- hr] at h1
   exact h1.1
  ·cases h
 ·rename_i ls
  cases hc:leavesOut ls xs with
  | none=>rw [hc] at h;cases h
  | some cs =>
   rw [hc] at h;cases h
   exact ⟨_,hr,leavesOut_ok hc⟩
 ·cases h
theorem outsOut_ok {n:Nat} {w:World}:∀ {ss:List Oh} {xs:List W} {vs:List V} {us:List Value},outsOut ss xs=some vs->outsRel n w ss (xs.map W.toI) us->VRs ρ vs us
 | [],[],vs,us,h,hr=>by cases h;obtain ⟨_,rfl⟩:=hr;trivial
 | [],_::_,vs,us,h,hr=>by cases h
 | s::ss,xs,vs,us,h,hr=>by
  unfold outsOut at h
  split at h
  ·rename_i a b h1 h2
   cases h
   cases us with
   | nil=>exact hr.elim
   | cons u us =>
    obtain ⟨_,r2,r3⟩:=hr
    rw [<- List.map_take] at r2
    rw [<- List.map_drop] at r3
    exact ⟨ohOut_ok h1 r2,outsOut_ok h2 r3⟩
  ·cases h
end
theorem tabF_glob {gls:Gls} {Z S:Nat->Prop} {F:Nat->Option Obj} {w0 w:World} {ρ:Rho} {H:T Ob} {nx:Nat} (hT:TabF gls S F) (hw:WR Z S F w0 ρ H nx w):GlobOk gls w:=by
 intro p hp
 obtain ⟨h1,h2,c,t,fz,h3,h4⟩:=hT p hp
 refine ⟨hw.slt _ h1,h2,fun j x hx=>?_⟩
 unfold World.cell?
 rw [hw.keep _ h1,h3]
 exact h4 j x hx
def AllOr (P:Program) (gls:Gls):List Or1->Prop
 | []=>True
 | o::r=>o.X.ok P gls/\AllOr P gls r
theorem ask_ok {P:Program} {gls:Gls}:∀ {l:List Or1},AllOr P gls l->OrOk P gls (askL l)
 | [],_=>fun _ _ _ _ _ _ _ _ _ _ _ _ _ _ _ h=>by cases h
 | o::r,hl=>by
  intro Z S F w0 ρ Y w f args us Y' s hT hw hr h
  unfold askL at h
  split at h
  ·rename_i hf
   have hf:=Nat.eq_of_beq_eq_true hf
   split at h
   ·rename_i xs hxs
    split at h
    ·rename_i os hos
     split at h
     ·rename_i vs hvs
      cases h
      obtain ⟨hpre,hsem⟩:=o.ok _ _ hos
      have hk:=hl.1 w (tabF_glob hT hw) us (xs.map W.toI) (insIn_ok hw hxs hr) hpre
      subst hf
      split at hk
      ·obtain ⟨zs,k1,k2⟩:=hk
       rw [hsem] at k2
       exact .inl ⟨ρ,_,w,k1,Ext.refl ρ,hw,ret_R (outsOut_ok hvs k2)⟩
      ·obtain ⟨k1,k2⟩:=hk
       refine .inr ⟨k1,k2.mono fun e w' ⟨zs,e1,e2,e3⟩=>?_⟩
       rw [hsem] at e2
       exact ⟨ρ,_,e1,Ext.refl ρ,hw.world e3.os e3.tape e3.output e3.size e3.block,ret_R (outsOut_ok hvs e2)⟩
     ·cases h
    ·exact ask_ok hl.2 Z S F w0 ρ Y w f args us Y' s hT hw hr h
   ·exact ask_ok hl.2 Z S F w0 ρ Y w f args us Y' s hT hw hr h
  ·exact ask_ok hl.2 Z S F w0 ρ Y w f args us Y' s hT hw hr h
def tabG (g:Nat) (l:List Int):Gls:=[(g,l.map fun z=>.int .u32 (.lit z))]
def st0 (g:Nat) (l:List Int):St:={tmps:=.nil,nt:=0,heap:=T.put .nil 0 (.cells (Row.new (l.map fun z=>CV.int .u32 z)) false 0),next:=1,gl:=[(g,0)] }
def says (P:Program) (fn:Func) (e:Ex) (Y:St):Bool:=match e with
 | .exit _=>false
 | _=>match resS P Y fn with
  | some [.one (.bool b)]=>b
  | _=>false
def runs (P:Program) (Or:Oracle) (n:Nat) (fn:Func) (c:Code) (g:Nat) (l:List Int) (args:List V):Bool :=
 Nat.ble args.length fn.ntmps&&Nat.ble fn.ntmps 65536&&exec P Or n (.code c) {st0 g l with tmps:=tmps0 args,nt:=fn.ntmps } (says P fn)
theorem start_rep {g:Nat} {l:List Int} {w:World} (hg:GlobOk (tabG g l) w) (hne:l≠[]):∃ ρ,Rep (fun _=>False) (fun b=>b<w.heap.size) (fun b=>w.heap[b]?) w ρ All (st0 g l) {tmps:=#[],defers:=[] } w:=by
 obtain ⟨h1,h2,h3⟩:=hg _ (List.mem_singleton.2 rfl)
 simp only at h1 h2 h3
 obtain ⟨c,t,fz,hc⟩:∃ c t fz,w.heap[g]?=some (.cells c t fz):=by
  cases l with
  | nil=>exact absurd rfl hne
  | cons z l =>
   have:=h3 0 _ (by simp;rfl)
   unfold World.cell? at this
   simp only at this
   split at this
   ·rename_i c t fz hh;exact ⟨c,t,fz,hh⟩
   ·cases this
 have hcell:∀ (j:Nat) z,l[j]?=some z->c[j]?=some (.int .u32 z):=by
  intro j z hz
  have:=h3 j (.int .u32 (.lit z)) (by simp [hz])
  unfold World.cell? at this
  rw [hc] at this
  exact this
 let p:Pl:={b:=g,o:=0,n:=c.size,z:=0 }
 refine ⟨fun i=>if i=0 then some p else none,⟨rfl,rfl,Nat.zero_le _,fun t _ hlt=>absurd hlt (by simp [st0]),fun q hq=>?_,⟨rfl,rfl,rfl,Nat.le_refl _,fun _ _=>rfl,fun b hb=>hb,fun id q hq=>?_,fun id q o hq ho=>?_,fun id id' q q' o o' hq hq' ho ho' hw hw' hne=>?_,fun id hf=>hf.elim⟩⟩⟩
 ·rw [List.mem_singleton.1 hq]
  exact ⟨p,by simp,rfl,rfl⟩
 ·by_cases hi:id=0
  ·rw [if_pos hi] at hq;cases hq;exact ⟨by subst hi;exact Nat.zero_lt_one,h1⟩
  ·rw [if_neg hi] at hq;cases hq
 ·by_cases hi:id=0
  ·rw [if_pos hi] at hq;cases hq;subst hi
   have ho:(T.put .nil 0 (Ob.cells (Row.new (l.map fun z=>CV.int .u32 z)) false 0)).at 0=some o:=ho
   have:=T.at_eq ho
   subst this
   refine ⟨c,t,fz,hc,rfl,rfl,fun e=>(by cases e),fun _=>h1,fun i cv hcv=>?_⟩
   have h4:(l.map fun z=>CV.int .u32 z)[i]?=some cv:=Row.at_new hcv
   rw [List.getElem?_map] at h4
   obtain ⟨z,hz,rfl⟩:=Option.map_eq_some_iff.1 h4
   exact ⟨_,by rw [Nat.zero_add];exact hcell i z hz,rfl⟩
  ·rw [if_neg hi] at hq;cases hq
 ·by_cases hi:id=0
  ·by_cases hi':id'=0
   ·exact absurd (hi.trans hi'.symm) hne
   ·rw [if_neg hi'] at hq';cases hq'
  ·rw [if_neg hi] at hq;cases hq
end Go.Cx
namespace Go.Sx
open Go Go.RowKit
def orS2 (g:FuncId) (op:Int->Int->Int):Or1:=⟨kS2 g op,fun | [.wi s,.wi a,.wi b]=>if (0<=s/\s<=2)/\a<rOf s/\b<rOf s then some [.wi (op a b%rOf s),.wi 0] else none | _=>none,fun aq os h=>by
 split at h
 ·split at h
  ·rename_i s a b hs
   cases h
   refine ⟨trivial,?_⟩
   show (if isS s/\a<rOf s/\b<rOf s then [op a b%rOf s,0] else [0,2])=_
   rw [if_pos (show isS s/\a<rOf s/\b<rOf s from hs)];rfl
  ·cases h
 ·cases h⟩
end Go.Sx
namespace Go.Cx
open Go Go.Sx Go.RowKit
inductive CC where | fl (v:V) | by (l:List Nat) | ll (l:List (Option (List Nat)))
def flatC:CV->Bool
 | .int .. | .bool _ | .str _ | .nil | .nilsl | .nilmap | .nilfn | .niliface=>true
 | .iface _ c=>flatC c
 | _=>false
def flatV (v:V):Bool:=v.cells.all flatC
theorem flatC_R {ρ ρ':Rho}:∀ {c:CV} {v:Value},flatC c=true->c.R ρ v->c.R ρ' v:=by
 intro c
 induction c with
 | iface t c ih =>
  intro v h hr
  obtain ⟨u,e1,e2,e3⟩:=hr
  exact ⟨u,e1,ih h e2,e3⟩
 | ptr a b=>intro v h;cases h
 | sl a b c d=>intro v h;cases h
 | map a=>intro v h;cases h
 | fn f l=>intro v h;cases h
 | top=>intro v h;cases h
 | _=>intro v h hr;exact hr
theorem flatCs_R {ρ ρ':Rho}:∀ {cs:List CV} {vs:List Value},cs.all flatC=true->CRs ρ cs vs->CRs ρ' cs vs
 | [],[],_,_=>trivial
 | [],_::_,_,h=>h.elim
 | _::_,[],_,h=>h.elim
 | c::cs,v::vs,h,hr=>by
  simp only [List.all_cons,Bool.and_eq_true] at h
  exact ⟨flatC_R h.1 hr.1,flatCs_R h.2 hr.2⟩
theorem flatV_R {ρ ρ':Rho} {x:V} {v:Value} (h:flatV x=true) (hr:x.R ρ v):x.R ρ' v:=by
 cases x with
 | one c=>exact flatC_R (by simpa [flatV,V.cells] using h) hr
 | agg cs=>obtain ⟨vs,e,k⟩:=hr;exact ⟨vs,e,flatCs_R h k⟩
theorem flatVs_R {ρ ρ':Rho}:∀ {xs:List V} {vs:List Value},xs.all flatV=true->VRs ρ xs vs->VRs ρ' xs vs
 | [],[],_,_=>trivial
 | [],_::_,_,h=>h.elim
 | _::_,[],_,h=>h.elim
 | c::cs,v::vs,h,hr=>by
  simp only [List.all_cons,Bool.and_eq_true] at h
  exact ⟨flatV_R h.1 hr.1,flatVs_R h.2 hr.2⟩
def bytC (l:List Nat):List CV:=l.map fun (n:Nat)=>CV.int .u8 (n:Int)
def bytEq:List CV->List Nat->Bool
 | [],[]=>true
 | .int .u8 n::cs,m::l=>intEq n (m:Int)&&bytEq cs l
 | _,_=>false
theorem bytEq_ok:∀ {cs:List CV} {l:List Nat},bytEq cs l=true->cs=bytC l
 | [],[],_=>rfl
 | [],_::_,h=>by cases h
 | c::cs,[],h=>by simp [bytEq] at h
 | c::cs,m::l,h=>by
  unfold bytEq at h
  split at h
  ·rename_i e _;cases e
  ·rename_i n cs' m' l' e1 e2
   cases e1;cases e2
   simp only [Bool.and_eq_true] at h
   rw [intEq_ok] at h
   have h1:n=(m:Int):=by simpa using h.1
   rw [bytEq_ok h.2,h1];rfl
  ·cases h
def capGood (row:Row) (off len z:Nat):Option Nat->Bool
 | some k=>Nat.ble len k&&Nat.blt 0 k&&(row.gets off k).isSome
 | none=>Nat.beq z 1
def seen (Y:St):CV->Option (List CV)
 | .sl id off len cap=>match Y.ob id with
  | some (.cells row _ z)=>if capGood row off len z cap then row.gets off len else none
  | _=>none
 | _=>none
def isIns (Y:St):List CV->List (Option (List Nat))->Bool
 | [],[]=>true
 | .nilsl::cs,none::ls=>isIns Y cs ls
 | c::cs,some l::ls=>(match seen Y c with | some bs=>bytEq bs l | none=>false)&&isIns Y cs ls
 | _,_=>false
def isCC (Y:St) (v:V):CC->Bool
 | .fl u=>v.same u&&flatV u
 | .by l=>match v with
  | .one c=>match seen Y c with | some cs=>bytEq cs l | none=>false
  | _=>false
 | .ll ls=>match v with
  | .one c=>match seen Y c with | some cs=>isIns Y cs ls | none=>false
  | _=>false
def isCCs (Y:St):List V->List CC->Bool
 | [],[]=>true
 | v::vs,c::cs=>isCC Y v c&&isCCs Y vs cs
 | _,_=>false
def layRow (Y:St) (cs:List CV):St×CV:=({Y with heap:=Y.heap.put Y.next (.cells (Row.new cs) false 1),next:=Y.next+1 },.sl Y.next 0 cs.length none)
def layIns (Y:St):List (Option (List Nat))->St×List CV
 | []=>(Y,[])
 | none::r=>((layIns Y r).1,.nilsl::(layIns Y r).2)
 | some l::r=>((layIns (layRow Y (bytC l)).1 r).1,(layRow Y (bytC l)).2::(layIns (layRow Y (bytC l)).1 r).2)
def layC (Y:St):CC->St×V
 | .fl u=>(Y,u)
 | .by l=>((layRow Y (bytC l)).1,.one (layRow Y (bytC l)).2)
 | .ll ls=>((layRow (layIns Y ls).1 (layIns Y ls).2).1,.one (layRow (layIns Y ls).1 (layIns Y ls).2).2)
def layAll (Y:St):List CC->St×List V
 | []=>(Y,[])
 | c::cs=>((layAll (layC Y c).1 cs).1,(layC Y c).2::(layAll (layC Y c).1 cs).2)
def SR (w:World) (ρ:Rho) (Y:St):Prop:=WR (fun _=>False) (fun b=>b<w.heap.size) (fun b=>w.heap[b]?) w ρ Y.heap Y.next w
section
variable {Z S:Nat->Prop} {F:Nat->Option Obj} {w0 w:World} {ρ ρ0:Rho} {Y σ0:St}
def Sl (p:Pl) (n:Nat) (u:Value):Prop:=∃ a k,u=.slice (some a) n k/\n<=k/\((a=p.at 0/\p.o+0+k*p.z<=p.n)∨(n=0/\k=0))
theorem seen_ok (hw:WR Z S F w0 ρ Y.heap Y.next w) {c:CV} {cs:List CV} {u:Value} (h:seen Y c=some cs) (hr:c.R ρ u) :
  ∃ (p:Pl) (A:Array Value) (t:TypeId) (fz:Nat×Nat),w.heap[p.b]?=some (.cells A t fz)/\p.n=A.size/\p.z=1/\(∀ i x,cs[i]?=some x->∃ v,A[p.o+i]?=some v/\x.R ρ v)/\Sl p cs.length u:=by
 unfold seen at h
 split at h
 ·rename_i id off len cap
  split at h
  ·rename_i row own z hob
   split at h
   ·rename_i hc
    obtain ⟨g1,g2⟩:=Row.gets_ok _ _ _ _ h
    have gen:∀ {p:Pl},ρ id=some p->(∃ a k,u=.slice (some a) len k/\len<=k/\((a=p.at off/\p.o+off+k<=p.n)∨(len=0/\k=0)))->∃ (p:Pl) (A:Array Value) (t:TypeId) (fz:Nat×Nat),w.heap[p.b]?=some (.cells A t fz)/\p.n=A.size/\p.z=1/\(∀ i x,cs[i]?=some x->∃ v,A[p.o+i]?=some v/\x.R ρ v)/\Sl p cs.length u:=by
     intro p hp ⟨a,k,e1,e2,e3⟩
     obtain ⟨A,t,fz,q1,q2,q3,q4,q5,q6⟩:=hw.ob id p _ hp hob
     refine ⟨⟨p.b,p.o+off,p.n,1⟩,A,t,fz,q1,q2,rfl,fun i x hx=>?_,a,k,by rw [g1];exact e1,by rw [g1];exact e2,?_⟩
     ·obtain ⟨v,k1,k2⟩:=q6 (off+i) x (g2 i x hx)
      exact ⟨v,by rw [Nat.add_assoc];exact k1,k2⟩
     ·rw [g1]
      rcases e3 with ⟨e3,e4⟩ | e3
      ·refine .inl ⟨by rw [e3];simp [Pl.at],?_⟩
       simp only
       omega
      ·exact .inr e3
    cases cap with
    | some k =>
     obtain ⟨p,h1,h2⟩:=hr
     simp only [capGood,Bool.and_eq_true] at hc
     obtain ⟨⟨c1,c2⟩,c3⟩:=hc
     obtain ⟨l,hl⟩:=Option.isSome_iff_exists.1 c3
     exact gen h1 ⟨_,k,h2,by simpa using c1,.inl ⟨rfl,gets_room hl hw h1 hob (by simpa using c2)⟩⟩
    | none =>
     obtain ⟨p,a,k,h1,h2,h3,h4⟩:=hr
     refine gen h1 ⟨a,k,h2,h3,?_⟩
     rcases h4 with ⟨e1,e2⟩ | e1
     ·obtain ⟨A,t,fz,q1,q2,q3,_⟩:=hw.ob id p _ h1 hob
      have hz:z=1:=by simpa [capGood] using hc
      rw [q3,hz] at e2
      exact .inl ⟨e1,by omega⟩
     ·exact .inr e1
   ·cases h
  ·cases h
 ·cases h
theorem layRow_ok (h:SR w ρ0 σ0) {cs:List CV} {p:Pl} {A:Array Value} {t:TypeId} {fz:Nat×Nat} (h1:w.heap[p.b]?=some (.cells A t fz)) (h2:p.n=A.size) (h3:p.z=1) (h4:∀ i x,cs[i]?=some x->∃ v,A[p.o+i]?=some v/\x.R ρ0 v) {u:Value} (h5:Sl p cs.length u) :
  ∃ ρ1,Ext ρ0 ρ1/\SR w ρ1 (layRow σ0 cs).1/\(layRow σ0 cs).2.R ρ1 u:=by
 have hn:ρ0 σ0.next=none:=by
  cases hr:ρ0 σ0.next with
  | none=>rfl
  | some q=>exact absurd (h.lt _ q hr).1 (Nat.lt_irrefl _)
 have hx:Ext ρ0 (ρ0.bind σ0.next p):=Rho.ext_bind hn
 have hlt:p.b<w.heap.size:=(Array.getElem?_eq_some_iff.1 h1).1
 have hb:∀ {id:Nat} {q:Pl},ρ0.bind σ0.next p id=some q->(id=σ0.next/\q=p)∨(id≠σ0.next/\ρ0 id=some q):=by
  intro id q hq
  unfold Rho.bind at hq
  by_cases hi:id=σ0.next
  ·rw [if_pos hi] at hq;cases hq;exact .inl ⟨hi,rfl⟩
  ·rw [if_neg hi] at hq;exact .inr ⟨hi,hq⟩
 refine ⟨ρ0.bind σ0.next p,hx,⟨rfl,rfl,rfl,Nat.le_refl _,h.keep,h.slt,fun id q hq=>?_,fun id q o hq ho=>?_,fun id id' q q' o o' hq hq' ho ho' hw hw' hne=>?_,fun id hf=>hf.elim⟩,?_⟩
 ·rcases hb hq with ⟨rfl,rfl⟩ | ⟨_,hq⟩
  ·exact ⟨Nat.lt_succ_self _,hlt⟩
  ·exact ⟨Nat.lt_succ_of_lt (h.lt id q hq).1,(h.lt id q hq).2⟩
 ·rcases hb hq with ⟨rfl,rfl⟩ | ⟨hi,hq⟩
  ·have ho:(σ0.heap.put σ0.next (.cells (Row.new cs) false 1)).at σ0.next=some o:=ho
   have:=T.at_eq ho
   subst this
   refine ⟨A,t,fz,h1,h2,h3,fun e=>(by cases e),fun _=>hlt,fun i cv hcv=>?_⟩
   obtain ⟨v,e1,e2⟩:=h4 i cv (Row.at_new hcv)
   exact ⟨v,e1,e2.mono hx⟩
  ·have ho:(σ0.heap.put σ0.next (.cells (Row.new cs) false 1)).at id=some o:=ho
   rw [T.at_ne _ _ (Ne.symm hi)] at ho
   exact (h.ob id q o hq ho).mono hx rfl
 ·rcases hb hq with ⟨rfl,rfl⟩ | ⟨hi,hq⟩
  ·have ho:(σ0.heap.put σ0.next (.cells (Row.new cs) false 1)).at σ0.next=some o:=ho
   have:=T.at_eq ho
   subst this
   cases hw
  ·rcases hb hq' with ⟨rfl,rfl⟩ | ⟨hi',hq'⟩
   ·have ho':(σ0.heap.put σ0.next (.cells (Row.new cs) false 1)).at σ0.next=some o':=ho'
    have:=T.at_eq ho'
    subst this
    cases hw'
   ·have ho:(σ0.heap.put σ0.next (.cells (Row.new cs) false 1)).at id=some o:=ho
    have ho':(σ0.heap.put σ0.next (.cells (Row.new cs) false 1)).at id'=some o':=ho'
    rw [T.at_ne _ _ (Ne.symm hi)] at ho
    rw [T.at_ne _ _ (Ne.symm hi')] at ho'
    exact h.inj id id' q q' o o' hq hq' ho ho' hw hw' hne
 ·obtain ⟨a,k,e1,e2,e3⟩:=h5
  exact ⟨p,a,k,by unfold Rho.bind;simp,e1,e2,e3⟩
theorem bytC_R {l:List Nat} {p:Pl} {A:Array Value} (h:∀ i x,(bytC l)[i]?=some x->∃ v,A[p.o+i]?=some v/\x.R ρ v):∀ i x,(bytC l)[i]?=some x->∃ v,A[p.o+i]?=some v/\x.R ρ0 v:=by
 intro i x hx
 obtain ⟨v,e1,e2⟩:=h i x hx
 refine ⟨v,e1,flatC_R ?_ e2⟩
 unfold bytC at hx
 rw [List.getElem?_map] at hx
 obtain ⟨n,_,rfl⟩:=Option.map_eq_some_iff.1 hx
 rfl
theorem layBy_ok (hw:WR Z S F w0 ρ Y.heap Y.next w) (h:SR w ρ0 σ0) {c:CV} {l:List Nat} {u:Value} (hc:(match seen Y c with | some bs=>bytEq bs l | none=>false)=true) (hr:c.R ρ u) :
  ∃ ρ1,Ext ρ0 ρ1/\SR w ρ1 (layRow σ0 (bytC l)).1/\(layRow σ0 (bytC l)).2.R ρ1 u:=by
 split at hc
 ·rename_i bs hs
  have:=bytEq_ok hc
  subst this
  obtain ⟨p,A,t,fz,h1,h2,h3,h4,h5⟩:=seen_ok hw hs hr
  exact layRow_ok h h1 h2 h3 (bytC_R h4) h5
 ·cases hc
theorem layIns_ok (hw:WR Z S F w0 ρ Y.heap Y.next w):∀ {ls:List (Option (List Nat))} {cs:List CV} {vs:List Value} {ρ0:Rho} {σ0:St},SR w ρ0 σ0->isIns Y cs ls=true->CRs ρ cs vs ->
  ∃ ρ1,Ext ρ0 ρ1/\SR w ρ1 (layIns σ0 ls).1/\CRs ρ1 (layIns σ0 ls).2 vs
 | [],cs,vs,ρ0,σ0,h,hi,hr=>by
  cases cs with
  | cons c cs=>simp [isIns] at hi
  | nil =>
   cases vs with
   | nil=>exact ⟨ρ0,Ext.refl ρ0,h,trivial⟩
   | cons _ _=>exact hr.elim
 | none::ls,cs,vs,ρ0,σ0,h,hi,hr=>by
  cases cs with
  | nil=>simp [isIns] at hi
  | cons c cs =>
   obtain ⟨v,r,rfl,h1,h2⟩:=CRs.cons_inv hr
   unfold isIns at hi
   split at hi
   ·rename_i e _;cases e
   ·rename_i cs' ls' e1 e2
    cases e1;cases e2
    obtain ⟨ρ1,k1,k2,k3⟩:=layIns_ok hw h hi h2
    exact ⟨ρ1,k1,k2,h1,k3⟩
   ·rename_i e2;cases e2
   ·cases hi
 | some l::ls,cs,vs,ρ0,σ0,h,hi,hr=>by
  cases cs with
  | nil=>simp [isIns] at hi
  | cons c cs =>
   obtain ⟨v,r,rfl,h1,h2⟩:=CRs.cons_inv hr
   have hi:((match seen Y c with | some bs=>bytEq bs l | none=>false)&&isIns Y cs ls)=true:=by
    unfold isIns at hi
    split at hi
    ·rename_i e _;cases e
    ·rename_i e2;cases e2
    ·rename_i e1 e2;cases e1;cases e2;exact hi
    ·cases hi
   simp only [Bool.and_eq_true] at hi
   obtain ⟨ρ1,k1,k2,k3⟩:=layBy_ok hw h hi.1 h1
   obtain ⟨ρ2,m1,m2,m3⟩:=layIns_ok hw k2 hi.2 h2
   exact ⟨ρ2,k1.trans m1,m2,k3.mono m1,m3⟩
theorem layC_ok (hw:WR Z S F w0 ρ Y.heap Y.next w) (h:SR w ρ0 σ0) {v:V} {cc:CC} {u:Value} (hc:isCC Y v cc=true) (hr:v.R ρ u):∃ ρ1,Ext ρ0 ρ1/\SR w ρ1 (layC σ0 cc).1/\(layC σ0 cc).2.R ρ1 u:=by
 cases cc with
 | fl x =>
  simp only [isCC,Bool.and_eq_true] at hc
  have:=V.same_ok hc.1
  subst this
  exact ⟨ρ0,Ext.refl ρ0,h,flatV_R hc.2 hr⟩
 | «by» l =>
  cases v with
  | agg cs=>simp [isCC] at hc
  | one c=>exact layBy_ok hw h hc hr
 | ll ls =>
  cases v with
  | agg cs=>simp [isCC] at hc
  | one c =>
   simp only [isCC] at hc
   split at hc
   ·rename_i cs hs
    obtain ⟨p,A,t,fz,h1,h2,h3,h4,h5⟩:=seen_ok hw hs hr
    obtain ⟨vs,g1,g2⟩:=exists_list (Q:=fun i (x:CV) v=>A[p.o+i]?=some v/\x.R ρ v) cs 0 (fun i x hx=>by rw [Nat.zero_add];exact h4 i x hx)
    have hcr:CRs ρ cs vs:=CRs.of_get g1.symm fun i x hx=>by
     have hl:i<vs.length:=by rw [g1];exact (List.getElem?_eq_some_iff.1 hx).1
     exact ⟨vs[i],List.getElem?_eq_getElem hl,(g2 i x vs[i] hx (List.getElem?_eq_getElem hl)).2⟩
    obtain ⟨ρ1,k1,k2,k3⟩:=layIns_ok hw h hc hcr
    have hlen:=CRs.length k3
    have hlen2:=CRs.length hcr
    obtain ⟨ρ2,m1,m2,m3⟩:=layRow_ok (cs:=(layIns σ0 ls).2) k2 h1 h2 h3 (fun i x hx=>by
     obtain ⟨v,e1,e2⟩:=CRs.get k3 i x hx
     have hil:i<cs.length:=by rw [hlen2];exact (List.getElem?_eq_some_iff.1 e1).1
     have:=(g2 i cs[i] v (List.getElem?_eq_getElem hil) e1).1
     rw [Nat.zero_add] at this
     exact ⟨v,this,e2⟩) (u:=u) (by rw [hlen,<- hlen2];exact h5)
    exact ⟨ρ2,k1.trans m1,m2,m3⟩
   ·cases hc
theorem layAll_ok (hw:WR Z S F w0 ρ Y.heap Y.next w):∀ {ccs:List CC} {vs:List V} {us:List Value} {ρ0:Rho} {σ0:St},SR w ρ0 σ0->isCCs Y vs ccs=true->VRs ρ vs us ->
  ∃ ρ1,Ext ρ0 ρ1/\SR w ρ1 (layAll σ0 ccs).1/\VRs ρ1 (layAll σ0 ccs).2 us
 | [],vs,us,ρ0,σ0,h,hi,hr=>by
  cases vs with
  | cons _ _=>cases hi
  | nil =>
   cases us with
   | nil=>exact ⟨ρ0,Ext.refl ρ0,h,trivial⟩
   | cons _ _=>exact hr.elim
 | c::ccs,vs,us,ρ0,σ0,h,hi,hr=>by
  cases vs with
  | nil=>cases hi
  | cons v vs =>
   cases us with
   | nil=>exact hr.elim
   | cons u us =>
    simp only [isCCs,Bool.and_eq_true] at hi
    obtain ⟨ρ1,k1,k2,k3⟩:=layC_ok hw h hi.1 hr.1
    obtain ⟨ρ2,m1,m2,m3⟩:=layAll_ok hw k2 hi.2 hr.2
    exact ⟨ρ2,k1.trans m1,m2,k3.mono m1,m3⟩
end
theorem layIns_gl:∀ (ls:List (Option (List Nat))) (Y:St),(layIns Y ls).1.gl=Y.gl
 | [],Y=>rfl
 | none::ls,Y=>layIns_gl ls Y
 | some l::ls,Y=>layIns_gl ls (layRow Y (bytC l)).1
theorem layC_gl (Y:St):∀ c:CC,(layC Y c).1.gl=Y.gl
 | .fl _=>rfl
 | .by _=>rfl
 | .ll ls=>layIns_gl ls Y
theorem layAll_gl:∀ (cs:List CC) (Y:St),(layAll Y cs).1.gl=Y.gl
 | [],Y=>rfl
 | c::cs,Y=>(layAll_gl cs (layC Y c).1).trans (layC_gl Y c)
def saysV (P:Program) (fn:Func) (out:List V) (e:Ex) (Y:St):Bool:=match e with
 | .exit _=>false
 | _=>match resS P Y fn with
  | some vs=>vsB vs out
  | none=>false
def subRuns (P:Program) (Or:Oracle) (n:Nat) (fn:Func) (c:Code) (g:Nat) (tl:List Int) (ins:List CC) (out:List V):Bool :=
 !(fn.name == "runtime.NumGoroutine")&&Nat.ble (layAll (st0 g tl) ins).2.length fn.ntmps&&Nat.ble fn.ntmps 65536&&out.all flatV &&
 exec P Or n (.code c) {(layAll (st0 g tl) ins).1 with tmps:=tmps0 (layAll (st0 g tl) ins).2,nt:=fn.ntmps } (saysV P fn out)
structure Sub (P:Program) (g:Nat) (tl:List Int) where
 f:FuncId
 ins:List CC
 out:List V
 ok:∃ fn c Or n,P.funcs[f]?=some fn/\fn.body=some c/\OrOk P (tabG g tl) Or/\subRuns P Or n fn c g tl ins out=true
def askSub {P:Program} {g:Nat} {tl:List Int}:List (Sub P g tl)->Oracle
 | [],_,_,_=>none
 | s::r,Y,f,args=>if Nat.beq s.f f&&isCCs Y args s.ins then some (Y,retS s.out) else askSub r Y f args
theorem sub_ok {P:Program} (hm:P.follows .mixedOrders=true) {g:Nat} {tl:List Int} (hne:tl≠[]):∀ (l:List (Sub P g tl)),OrOk P (tabG g tl) (askSub l)
 | []=>fun _ _ _ _ _ _ _ _ _ _ _ _ _ _ _ h=>by cases h
 | s::r=>by
  intro Z S F w0 ρ Y w f args us Y' sv hT hw hr h
  unfold askSub at h
  split at h
  ·rename_i hc
   simp only [Bool.and_eq_true] at hc
   obtain ⟨hf,hcc⟩:=hc
   have hf:=Nat.eq_of_beq_eq_true hf
   subst hf
   cases h
   obtain ⟨fn,c,Or,n,hfn,hbody,hO,hrun⟩:=s.ok
   unfold subRuns at hrun
   simp only [Bool.and_eq_true,Bool.not_eq_true'] at hrun
   obtain ⟨⟨⟨⟨h1,h2⟩,h3⟩,h4⟩,h5⟩:=hrun
   have hg:=tabF_glob hT hw
   obtain ⟨ρ0,hR⟩:=start_rep hg hne
   obtain ⟨ρ1,k1,k2,k3⟩:=layAll_ok hw (ccs:=s.ins) (σ0:=st0 g tl) hR.wr hcc hr
   refine .inr ⟨run_callFunc hfn h1 hbody,?_⟩
   have hT':TabF (tabG g tl) (fun b=>b<w.heap.size) (fun b=>w.heap[b]?):=by
    intro p hp
    obtain ⟨q1,q2,A,t,fz,q3,q4⟩:=hT p hp
    exact ⟨hw.slt _ q1,q2,A,t,fz,by show w.heap[p.1]?=_;rw [hw.keep _ q1];exact q3,q4⟩
   have hR':Rep (fun _=>False) (fun b=>b<w.heap.size) (fun b=>w.heap[b]?) w ρ1 All {(layAll (st0 g tl) s.ins).1 with tmps:=.nil,nt:=0 } {tmps:=#[],defers:=[] } w :=
    ⟨rfl,rfl,Nat.zero_le _,fun t _ hlt=>absurd hlt (Nat.not_lt_zero _),fun p hp=>by
     have hp:p∈(layAll (st0 g tl) s.ins).1.gl:=hp
     rw [layAll_gl] at hp
     obtain ⟨q,e1,e2⟩:=hR.gl p hp
     exact ⟨q,k1 _ _ e1,e2⟩,k2⟩
   refine calls_of_wp hfn hbody ?_
   refine (sound (gls:=tabG g tl) hm hO n).1 _ _ _ w ρ1 (.code c) _ _ _ w _ hT' (enter_rep hR' k3 (by simpa using h2) (by simpa using h3)) h5 fun e Y' ρ' a' w' e1 e2 e3=>?_
   have hbel:WR Z S F w0 ρ Y.heap Y.next w':=hw.world e2.wr.os e2.wr.tape e2.wr.output e2.wr.size fun b hb=>e2.wr.keep b hb
   have fin:∀ {vs},resS P Y' fn=some vs->vsB vs s.out=true->∃ vv:Value,(results fn a'.tmps).run P w'=.ok vv w'/\(retS s.out).R ρ vv:=by
    intro vs hvs hb
    have:=vsB_ok hb
    subst this
    obtain ⟨vv,r1,r2⟩:=res_ok e2 hvs
    exact ⟨_,r1,ret_R (flatVs_R h4 r2)⟩
   cases e with
   | exit id=>cases e3
   | normal =>
    unfold saysV at e3
    simp only at e3
    split at e3
    ·rename_i vs hvs
     obtain ⟨vv,r1,r2⟩:=fin hvs e3
     exact ⟨e2.defers,vv,r1,ρ,vv,rfl,Ext.refl ρ,hbel,r2⟩
    ·cases e3
   | ret =>
    unfold saysV at e3
    simp only at e3
    split at e3
    ·rename_i vs hvs
     obtain ⟨vv,r1,r2⟩:=fin hvs e3
     exact ⟨e2.defers,vv,r1,ρ,vv,rfl,Ext.refl ρ,hbel,r2⟩
    ·cases e3
  ·exact sub_ok hm hne r Z S F w0 ρ Y w f args us Y' sv hT hw hr h
def orTwo (A B:Oracle):Oracle:=fun Y f args=>match A Y f args with | some x=>some x | none=>B Y f args
theorem orTwo_ok {P:Program} {gls:Gls} {A B:Oracle} (hA:OrOk P gls A) (hB:OrOk P gls B):OrOk P gls (orTwo A B):=by
 intro Z S F w0 ρ Y w f args us Y' sv hT hw hr h
 unfold orTwo at h
 split at h
 ·rename_i x hx
  cases h
  exact hA Z S F w0 ρ Y w f args us Y' sv hT hw hr hx
 ·exact hB Z S F w0 ρ Y w f args us Y' sv hT hw hr h
theorem known_or {P:Program} {g:Nat} {tl:List Int} {Or:Oracle} (hm:P.follows .mixedOrders=true) (hO:OrOk P (tabG g tl) Or) {f:FuncId} {fn:Func} {c:Code} (hf:P.funcs[f]?=some fn) (hbody:fn.body=some c) (n:Nat)
  {args:List V} (hr:runs P Or n fn c g tl args=true) (hne:tl≠[]) (w:World) (hg:GlobOk (tabG g tl) w) (us:List Value) (hus:∀ ρ,VRs ρ args us) :
  Calls P f us.toArray w fun e w'=>e=.returned (.bool true)/\Below w.heap.size w w':=by
 unfold runs at hr
 simp only [Bool.and_eq_true] at hr
 obtain ⟨⟨h1,h2⟩,h3⟩:=hr
 obtain ⟨ρ,hR⟩:=start_rep hg hne
 refine calls_of_wp hf hbody ?_
 have hT:TabF (tabG g tl) (fun b=>b<w.heap.size) (fun b=>w.heap[b]?):=by
  intro p hp
  obtain ⟨q1,q2,q3⟩:=hg p hp
  have hpe:p=(g,tl.map fun z=>.int .u32 (.lit z)):=List.mem_singleton.1 hp
  refine ⟨q1,q2,?_⟩
  obtain ⟨c,t,fz,hc⟩:∃ c t fz,w.heap[p.1]?=some (.cells c t fz):=by
   cases tl with
   | nil=>exact absurd rfl hne
   | cons z tl =>
    have:=q3 0 (.int .u32 (.lit z)) (by rw [hpe];rfl)
    unfold World.cell? at this
    simp only at this
    split at this
    ·rename_i c t fz hh;exact ⟨c,t,fz,hh⟩
    ·cases this
  refine ⟨c,t,fz,hc,fun j x hx=>?_⟩
  have:=q3 j x hx
  unfold World.cell? at this
  rw [hc] at this
  simpa using this
 refine (sound (gls:=tabG g tl) hm hO n).1 _ _ _ w ρ (.code c) _ _ _ w _ hT (enter_rep hR (hus ρ) (by simpa using h1) (by simpa using h2)) h3 fun e Y' ρ' a' w' e1 e2 e3=>?_
 have hbel:Below w.heap.size w w':=⟨e2.wr.os,e2.wr.tape,e2.wr.output,e2.wr.size,fun k hk=>e2.wr.keep k hk⟩
 have fin:∀ {b},resS P Y' fn=some [.one (.bool b)]->b=true->∃ vv:Value,(results fn a'.tmps).run P w'=.ok vv w'/\vv=.bool true:=by
  intro b hb hbt
  obtain ⟨vv,r1,r2⟩:=res_ok e2 hb
  cases vv with
  | nil=>exact r2.elim
  | cons v r=>cases r with
   | cons _ _=>exact r2.2.elim
   | nil =>
    refine ⟨_,r1,?_⟩
    have:v=.bool b:=r2.1
    rw [this,hbt];rfl
 cases e with
 | exit id=>cases e3
 | normal =>
  unfold says at e3
  simp only at e3
  split at e3
  ·rename_i b hb
   obtain ⟨vv,r1,r2⟩:=fin hb e3
   exact ⟨e2.defers,vv,r1,by rw [r2],hbel⟩
  ·cases e3
 | ret =>
  unfold says at e3
  simp only at e3
  split at e3
  ·rename_i b hb
   obtain ⟨vv,r1,r2⟩:=fin hb e3
   exact ⟨e2.defers,vv,r1,by rw [r2],hbel⟩
  ·cases e3
end Go.Cx
