/- Part Nd of the proof. -/
import Derived.Test.YtdndmkcppacjnaaGreatDoorNc
set_option linter.unusedVariables false
set_option linter.unusedSimpArgs false
namespace Go.Sx
open Go Go.RowKit
section
variable {P:Program} {w:World}
theorem run_eqGuard_int (op:BinOp) (t:TypeId) (x y:Operand) (k k':IntKind) (a b:Int):(eqGuard op t x y (.int k a) (.int k' b)).run P w=.ok () w:=by
 cases op <;> simp [eqGuard]
theorem run_eqGuard_bool (op:BinOp) (t:TypeId) (x y:Operand) (a b:Bool):(eqGuard op t x y (.bool a) (.bool b)).run P w=.ok () w:=by
 cases op <;> simp [eqGuard]
theorem run_eqGuard_str (op:BinOp) (t:TypeId) (x y:Operand) (a b:ByteArray):(eqGuard op t x y (.string a) (.string b)).run P w=.ok () w:=by
 cases op <;> simp [eqGuard]
theorem run_bin_str {op:BinOp} {t:TypeId} {a b:ByteArray}:(binOp .eql t (.string a) (.string b)).run P w=.ok (.bool (a.toList == b.toList)) w ∧ (binOp .neq t (.string a) (.string b)).run P w=.ok (.bool (!(a.toList == b.toList))) w :=
 ⟨by simp [binOp,Op.stringOp],by simp [binOp,Op.stringOp]⟩
theorem str_inj {l k:List Int} (hl:(LK.int .u8).hasL l) (hk:(LK.int .u8).hasL k) (h:(strOfNums l).data.toList=(strOfNums k).data.toList):l=k:=by
 rw [strOfNums_data,strOfNums_data] at h
 have h2:=congrArg (List.map fun b:UInt8=>(b.toNat:Int)) h
 have key:∀ l:List Int,(LK.int .u8).hasL l → (l.map fun n=>UInt8.ofNat n.toNat).map (fun b:UInt8=>(b.toNat:Int))=l:=fun l hl=>by
  rw [List.map_map]
  refine (List.map_congr_left fun n hn=>?_).trans (List.map_id l)
  have:=hl.2 n hn
  simp only [LK.has,has,lo,hi] at this
  simp only [Function.comp,id,UInt8.toNat_ofNat']
  omega
 rw [key l hl,key k hk] at h2
 exact h2
theorem str_eq {x y:Int} (hx:(LK.int .u8).hasL (dec x)) (hy:(LK.int .u8).hasL (dec y)):((strOfNums (dec x)).toList == (strOfNums (dec y)).toList)=(dec x == dec y):=by
 rw [ByteArray.toList_eq,ByteArray.toList_eq,Bool.eq_iff_iff,beq_iff_eq,beq_iff_eq]
 exact ⟨str_inj hx hy,fun h=>by rw [h]⟩
theorem run_bin_same {op:BinOp} {t:TypeId} {k:IntKind} {a b:Int} (ho:(match op with | .add | .sub | .mul | .and | .or | .xor | .andNot=>true | .quo | .rem=>b != 0 | _=>false)=true) :
  (binOp op t (.int k a) (.int k b)).run P w=.ok (.int k (binE op k a b)) w:=by
 cases op <;> simp at ho <;> simp [binOp,Op.intArith,Op.intDiv,Op.intBits,binE,wr_eq,ho]
theorem run_bin_shift {op:BinOp} {t:TypeId} {k k':IntKind} {a b:Int} (ho:(match op with | .shl | .shr=>true | _=>false)=true) (hb:0 ≤ b) :
  (binOp op t (.int k a) (.int k' b)).run P w=.ok (.int k (binE op k a b)) w:=by
 cases op <;> simp at ho <;> simp [binOp,Op.shift,binE,wr_eq,show ¬ b < 0 by omega]
theorem run_bin_cmp {op:BinOp} {t:TypeId} {k:IntKind} {a b:Int} (ho:(match op with | .eql | .neq | .lss | .leq | .gtr | .geq=>true | _=>false)=true) :
  (binOp op t (.int k a) (.int k b)).run P w=.ok (.bool (cmpE op a b)) w:=by
 cases op <;> simp at ho <;> simp [binOp,Op.intCmp,cmpE]
theorem run_equal_bool {t:TypeId} {a b:Bool} (ht:P.underlying t=some .bool):(Op.equal t (.bool a) (.bool b)).run P w=.ok (a == b) w:=by
 have:=run_equalIn_bool' (P:=P) w 9999 t a b ht
 exact this
theorem run_bin_bool {op:BinOp} {t:TypeId} {a b:Bool} (ht:P.underlying t=some .bool) (ho:op=.eql ∨ op=.neq) :
  (binOp op t (.bool a) (.bool b)).run P w=.ok (.bool (match op with | .eql=>a == b | _=>a != b)) w:=by
 rcases ho with rfl | rfl
 ·simp [binOp,run_equal_bool ht]
 ·simp [binOp,run_equal_bool ht,bne]
end
theorem b2i_bit (b:Bool):0 ≤ b2i b ∧ b2i b ≤ 1:=by cases b <;> simp [b2i]
theorem decide_b2i (b:Bool):decide (b2i b ≠ 0)=b:=by cases b <;> simp [b2i]
section
variable {P:Program} {T:List K} {w0:World} {m:M} {σ:St} {a:Act} {w:World} {o:Oper} {nn nid:Nat} {p:Plan}
theorem binInt_ok {op:BinOp} {t yt:TypeId} {x y:Operand} {k k':IntKind} {u v:A} (ho:o.op=.binOp op t x y yt)
    (hu:C.rel m σ.nv σ.al (.int k u) (a.eval x)) (hv:C.rel m σ.nv σ.al (.int k' v) (a.eval y)) (hp:binInt op k k' u v nn=.ok p)
    (hd:DefsOk T m.env σ.nv nn p.defs) (hz:∀ x ∈ p.nz,x.ev m.env ≠ 0):PureOk P m σ a w o p.val:=by
  obtain ⟨hu1,hu2,hu3⟩:=hu
  obtain ⟨hv1,hv2,hv3⟩:=hv
  have fin:∀ {r:Value},(binOp op t (.int k (u.ev m.env)) (.int k' (v.ev m.env))).run P w=.ok r w → (execOp a.eval o).run P w=.ok (.value r) w:=by
    intro r hr
    simp only [execOp,ho,hu3,hv3]
    simp [run_eqGuard_int,hr]
  have arith':p.val=.vl (.one (.int k (mk nn (.int k) (.bin op k u v)).2)) → p.defs=(mk nn (.int k) (.bin op k u v)).1 → (binOp op t (.int k (u.ev m.env)) (.int k' (v.ev m.env))).run P w=.ok (.int k (binE op k (u.ev m.env) (v.ev m.env))) w → PureOk P m σ a w o p.val:=by
    intro h0 h1 h2
    obtain ⟨hk,he⟩:=mk_ok (h1 ▸ hd)
    rw [h0]
    refine ⟨_,fin h2,hk,?_,?_⟩
    · rw [he]; exact binE_has hu2
    · rw [he]; rfl
  have arith:mkP nn (.int k) (.bin op k u v) (.int k)=.ok p → (binOp op t (.int k (u.ev m.env)) (.int k' (v.ev m.env))).run P w=.ok (.int k (binE op k (u.ev m.env) (v.ev m.env))) w → PureOk P m σ a w o p.val:=by
    intro h1
    unfold mkP at h1
    cases h1
    exact arith' rfl rfl
  have cmp:mkP nn .bit (.cmp op u v) .bool=.ok p → (binOp op t (.int k (u.ev m.env)) (.int k' (v.ev m.env))).run P w=.ok (.bool (cmpE op (u.ev m.env) (v.ev m.env))) w → PureOk P m σ a w o p.val:=by
    intro h1 h2
    obtain ⟨z,hz,hk,he⟩:=mkP_ok h1 hd
    rw [hz]
    refine ⟨_,fin h2,hk,?_,?_⟩
    · rw [he]; exact b2i_bit _
    · rw [he]; exact congrArg Value.bool (decide_b2i _).symm
  unfold binInt at hp
  have sh:∀ {op:BinOp},(match op with | .shl | .shr=>true | _=>false)=true → (match v with | .lit n=>if 0 ≤ n then mkP nn (.int k) (.bin op k u v) (.int k) else Pl.bad 1 | _=>if lo k' == 0 then mkP nn (.int k) (.bin op k u v) (.int k) else (Pl.ok { val:=.vl (.one (.int k (.var (nn + 1)))),defs:=[(.bit,.cmp .leq (.lit 0) v),(.int k,.bin op k u v)],nz:=[.var nn] }))=.ok p →
      0 ≤ v.ev m.env ∧ (mkP nn (.int k) (.bin op k u v) (.int k)=.ok p ∨ (p.val=.vl (.one (.int k (.var (nn + 1)))) ∧ m.env (nn + 1)=binE op k (u.ev m.env) (v.ev m.env) ∧ nn + 1 < σ.nv)):=by
    intro op _ h1
    split at h1
    · split at h1
      · exact ⟨‹_›,.inl h1⟩
      · cases h1
    · split at h1
      · rename_i h2; simp only [has] at hv2; simp at h2; exact ⟨by omega,.inl h1⟩
      · cases h1
        have e0:m.env nn=b2i (decide (0 ≤ v.ev m.env)):=(hd.2 0 _ _ rfl).1
        have z0:m.env nn ≠ 0:=hz (.var nn) (by simp)
        have e1:m.env (nn + 1)=binE op k (u.ev m.env) (v.ev m.env):=(hd.2 1 _ _ rfl).1
        refine ⟨?_,.inr ⟨rfl,e1,by have:=hd.1; simp only [List.length_cons,List.length_nil] at this; omega⟩⟩
        by_cases hc:0 ≤ v.ev m.env
        · exact hc
        · rw [e0] at z0; simp [hc,b2i] at z0
  split at hp
  all_goals first
    | (obtain ⟨h1,h2⟩:=sh rfl hp
       rcases h2 with h2 | ⟨h2,h3,h4⟩
       · exact arith h2 (run_bin_shift rfl h1)
       · rw [h2]
         refine ⟨_,fin (run_bin_shift rfl h1),⟨h4,trivial⟩,?_,?_⟩
         · simp only [A.ev,h3]; exact binE_has hu2
         · simp only [A.ev,h3])
    | (split at hp
       · rename_i hk
         simp at hk
         subst hk
         first
         | exact arith hp (run_bin_same rfl)
         | exact cmp hp (run_bin_cmp rfl)
         | (split at hp
            · split at hp
              · rename_i hn; exact arith hp (run_bin_same hn)
              · cases hp
            · cases hp
              have h3:v.ev m.env ≠ 0:=hz v (by simp)
              exact arith' rfl rfl (run_bin_same (by simpa using h3)))
       · cases hp)
end
def Op.eqItems (P:Program) (d:Nat) (e:TypeId) (n:Nat) (xs ys:Array Value):List Nat → Sem Bool
 | []=>pure true
 | i :: is=>do
  let a ← part e xs (i * n)
  let b ← part e ys (i * n)
  let r ← Op.equalIn d e a b
  if (!r)=true then pure false else Op.eqItems P d e n xs ys is
theorem run_equalIn_array {P:Program} (w:World) (d:Nat) (t e:TypeId) (len n:Nat) (xs ys:Array Value) (ht:P.underlying t=some (.array len e)) (hn:szOf P e=some n) :
  (Op.equalIn (d + 1) t (.agg xs) (.agg ys)).run P w=(Op.eqItems P d e n xs ys (List.range' 0 len)).run P w:=by
 simp only [Op.equalIn,Sem.run_bind,run_underlying ht,Result.andThen_ok,run_sizeOf hn]
 rw [Std.Legacy.Range.forIn_eq_forIn_range']
 simp only [Std.Legacy.Range.size,Nat.sub_zero,Nat.add_sub_cancel,Nat.div_one]
 generalize List.range' 0 len 1=l
 induction l generalizing w with
 | nil=>simp [Op.eqItems]
 | cons i l ih =>
  simp only [List.forIn_cons,Op.eqItems,Sem.run_bind,Sem.run_ite]
  generalize (part e xs (i * n)).run P w=r1
  cases r1 with
  | ok a w1 =>
   simp only [Result.andThen_ok]
   generalize (part e ys (i * n)).run P w1=r2
   cases r2 with
   | ok b w2 =>
    simp only [Result.andThen_ok]
    generalize (Op.equalIn d e a b).run P w2=r3
    cases r3 with
    | ok r w3 =>
     cases r
     ·simp only [Result.andThen_ok,Bool.not_false,if_true,Sem.run_pure]
     ·simp only [Result.andThen_ok,Bool.not_true,Bool.false_eq_true,if_false,Sem.run_pure]
      exact ih w3
    | halt x w3=>simp [Result.andThen]
   | halt x w2=>simp [Result.andThen]
  | halt x w1=>simp [Result.andThen]
def tval (d:TypeDesc) (vs:List Value):Value:=if isAggB d then .agg vs.toArray else vs.headD undef
theorem run_part {P:Program} {w:World} {t:TypeId} {d:TypeDesc} {s:Nat} {vs:List Value} {off:Nat} (hd:P.underlying t=some d) (hs:szOf P t=some s)
  (h1:isAggB d=false → off < vs.length ∧ s=1):(part t vs.toArray off).run P w=.ok (tval d ((vs.drop off).take s)) w:=by
 unfold tval
 cases ha:isAggB d with
 | true=>simp [part,run_isAgg hd,ha,run_sizeOf hs]
 | false =>
  obtain ⟨h2,h3⟩:=h1 ha
  subst h3
  simp [part,run_isAgg hd,ha,h2,List.head?_take,List.head?_drop]
section
variable {P:Program} {m:M} {nv:Nat} {al:Nat → Bool}
noncomputable def prs (m:M) (ps:List (A × A)):Bool:=ps.all fun p=>p.1.ev m.env == p.2.ev m.env
def EqAt (P:Program) (m:M) (nv:Nat) (al:Nat → Bool) (d:Nat) (t:TypeId) (f:List C → List C → Option (List (A × A) × List C × List C)):Prop :=
 ∀ xs ys ps xs' ys',f xs ys=some (ps,xs',ys') → ∀ vx vy,Rels m nv al xs vx → Rels m nv al ys vy →
  ∃ s ds,P.underlying t=some ds ∧ szOf P t=some s ∧ (isAggB ds=false → s=1) ∧ s ≤ vx.length ∧ s ≤ vy.length ∧ Rels m nv al xs' (vx.drop s) ∧ Rels m nv al ys' (vy.drop s) ∧
   ∀ n,d ≤ n → ∀ w,(Go.Op.equalIn n t (tval ds (vx.take s)) (tval ds (vy.take s))).run P w=.ok (prs m ps) w
theorem drop_take_part {vs:List Value} {off s N:Nat} (h:off + s ≤ N):((vs.take N).drop off).take s=(vs.drop off).take s:=by
 rw [List.drop_take,List.take_take,Nat.min_eq_left (by omega)]
theorem eqN_ok {d:Nat} {e:TypeId} {f:List C → List C → Option (List (A × A) × List C × List C)} (hf:EqAt P m nv al d e f) {s:Nat} {de:TypeDesc} (hs:szOf P e=some s) (hde:P.underlying e=some de) :
  ∀ (n:Nat) (xs ys:List C) ps xs' ys',eqN f n xs ys=some (ps,xs',ys') → ∀ (VX VY:List Value) (k:Nat) (N:Nat),(k + n) * s ≤ N → Rels m nv al xs (VX.drop (k * s)) → Rels m nv al ys (VY.drop (k * s)) →
   (n ≠ 0 → (k + n) * s ≤ VX.length ∧ (k + n) * s ≤ VY.length) ∧ Rels m nv al xs' (VX.drop ((k + n) * s)) ∧ Rels m nv al ys' (VY.drop ((k + n) * s)) ∧
   ∀ D,d ≤ D → ∀ w,(Op.eqItems P D e s (VX.take N).toArray (VY.take N).toArray (List.range' k n)).run P w=.ok (prs m ps) w:=by
 intro n
 induction n with
 | zero =>
  intro xs ys ps xs' ys' h VX VY k N _ hx hy
  simp [eqN] at h
  obtain ⟨rfl,rfl,rfl⟩:=h
  exact ⟨fun h=>absurd rfl h,by simpa using hx,by simpa using hy,fun D _ w=>by simp [Op.eqItems,prs]⟩
 | succ n ih =>
  intro xs ys ps xs' ys' h VX VY k N hN hx hy
  unfold eqN at h
  split at h
  ·cases h
  ·rename_i r hr
   obtain ⟨ps1,xs1,ys1⟩:=r
   simp only at h
   split at h
   ·cases h
   ·rename_i q hq
    obtain ⟨ps2,xs2,ys2⟩:=q
    simp at h
    obtain ⟨rfl,rfl,rfl⟩:=h
    obtain ⟨s',ds,h1,h2,h3,h4,h5,h6,h7,h8⟩:=hf _ _ _ _ _ hr _ _ hx hy
    rw [hs] at h2; cases h2
    rw [hde] at h1; cases h1
    have e1:k * s + s=(k + 1) * s:=by rw [Nat.add_mul,Nat.one_mul]
    have e2:(k + 1 + n) * s=(k + (n + 1)) * s:=by congr 1; omega
    rw [List.drop_drop,e1] at h6 h7
    obtain ⟨g1,g2,g3,g4⟩:=ih _ _ _ _ _ hq VX VY (k + 1) N (by rw [e2]; exact hN) h6 h7
    rw [e2] at g1 g2 g3
    have hb:(k + 1) * s ≤ (k + (n + 1)) * s:=Nat.mul_le_mul_right _ (by omega)
    rw [List.length_drop] at h4 h5
    refine ⟨fun _=>?_,g2,g3,fun D hD w=>?_⟩
    ·by_cases h0:n=0
     ·subst h0
      by_cases hs0:s=0
      ·subst hs0; simp
      ·rw [← e2]; simp only [Nat.add_zero]; omega
     ·exact g1 h0
    ·rw [List.range'_succ]
     simp only [Op.eqItems,Sem.run_bind]
     have p1:(part e (VX.take N).toArray (k * s)).run P w=.ok (tval de ((VX.drop (k * s)).take s)) w:=by
      rw [run_part hde hs,drop_take_part (by omega)]
      intro ha
      have:=h3 ha
      subst this
      refine ⟨?_,rfl⟩
      rw [List.length_take]; omega
     have p2:(part e (VY.take N).toArray (k * s)).run P w=.ok (tval de ((VY.drop (k * s)).take s)) w:=by
      rw [run_part hde hs,drop_take_part (by omega)]
      intro ha
      have:=h3 ha
      subst this
      refine ⟨?_,rfl⟩
      rw [List.length_take]; omega
     simp only [p1,p2,Result.andThen_ok,h8 D hD w,Sem.run_ite,g4 D hD w,Sem.run_pure]
     unfold prs
     rw [List.all_append]
     cases (ps1.all fun p=>p.1.ev m.env == p.2.ev m.env) <;> simp
theorem eqFs_ok {d:Nat} {f:TypeId → List C → List C → Option (List (A × A) × List C × List C)} (hf:∀ t,EqAt P m nv al d t (f t)) :
  ∀ (fs:List Field) (n:Nat) (xs ys:List C) ps n' xs' ys',eqFs f (szOf P) fs n xs ys=some (ps,n',xs',ys') → n ≤ n' ∧ ∀ (VX VY:List Value) (N:Nat),n' ≤ N → Rels m nv al xs (VX.drop n) → Rels m nv al ys (VY.drop n) →
   (n'=n ∨ (n' ≤ VX.length ∧ n' ≤ VY.length)) ∧ Rels m nv al xs' (VX.drop n') ∧ Rels m nv al ys' (VY.drop n') ∧
   ∀ D,d ≤ D → ∀ w,(Go.Op.eqFields D (VX.take N).toArray (VY.take N).toArray fs).run P w=.ok (prs m ps) w:=by
 intro fs
 induction fs with
 | nil =>
  intro n xs ys ps n' xs' ys' h
  simp [eqFs] at h
  obtain ⟨rfl,rfl,rfl,rfl⟩:=h
  exact ⟨Nat.le_refl _,fun VX VY N _ hx hy=>⟨.inl rfl,hx,hy,fun D _ w=>by simp [Go.Op.eqFields,prs]⟩⟩
 | cons fd fs ih =>
  intro n xs ys ps n' xs' ys' h
  unfold eqFs at h
  split at h
  ·cases h
  ·rename_i hname
   simp at hname
   split at h
   ·rename_i r s hr hs
    obtain ⟨ps1,xs1,ys1⟩:=r
    simp only at h
    split at h
    ·cases h
    ·rename_i q hq
     obtain ⟨ps2,n2,xs2,ys2⟩:=q
     simp at h
     obtain ⟨rfl,rfl,rfl,rfl⟩:=h
     obtain ⟨hle,hrest⟩:=ih _ _ _ _ _ _ _ hq
     refine ⟨by omega,fun VX VY N hN hx hy=>?_⟩
     obtain ⟨s',ds,h1,h2,h3,h4,h5,h6,h7,h8⟩:=hf _ _ _ _ _ _ hr _ _ hx hy
     rw [hs] at h2; cases h2
     rw [List.drop_drop] at h6 h7
     obtain ⟨g1,g2,g3,g4⟩:=hrest VX VY N hN h6 h7
     rw [List.length_drop] at h4 h5
     refine ⟨?_,g2,g3,fun D hD w=>?_⟩
     ·omega
     ·simp only [Go.Op.eqFields,hname.1,ne_eq,not_false_eq_true,if_true,Sem.run_bind,hname.2]
      have p1:(part fd.type (VX.take N).toArray n).run P w=.ok (tval ds ((VX.drop n).take s)) w:=by
       rw [run_part h1 hs,drop_take_part (by omega)]
       intro ha
       have:=h3 ha
       subst this
       refine ⟨?_,rfl⟩
       rw [List.length_take]; omega
      have p2:(part fd.type (VY.take N).toArray n).run P w=.ok (tval ds ((VY.drop n).take s)) w:=by
       rw [run_part h1 hs,drop_take_part (by omega)]
       intro ha
       have:=h3 ha
       subst this
       refine ⟨?_,rfl⟩
       rw [List.length_take]; omega
      simp only [p1,p2,Result.andThen_ok,h8 D hD w,Sem.run_ite,g4 D hD w,Sem.run_pure]
      unfold prs
      rw [List.all_append]
      cases (ps1.all fun p=>p.1.ev m.env == p.2.ev m.env) <;> simp
   ·cases h
theorem eqW_ok:∀ (d:Nat) (t:TypeId),EqAt P m nv al d t (eqW P d t):=by
 intro d
 induction d with
 | zero=>intro t xs ys ps xs' ys' h; simp [eqW] at h
 | succ d ih =>
  intro t xs ys ps xs' ys' h vx vy hx hy
  unfold eqW at h
  split at h
  ·rename_i k0 hu
   split at h
   ·rename_i k a xs1 k' b ys1
    split at h
    ·rename_i hk
     simp at hk h
     obtain ⟨rfl,hs⟩:=hk
     obtain ⟨rfl,rfl,rfl⟩:=h
     match vx,vy,hx,hy with
     | u :: vx,v :: vy,hx,hy =>
      obtain ⟨⟨_,_,rfl⟩,hx⟩:=hx
      obtain ⟨⟨_,_,rfl⟩,hy⟩:=hy
      refine ⟨1,_,hu,hs,fun _=>rfl,by simp,by simp,hx,hy,fun n hn w=>?_⟩
      obtain ⟨n',rfl⟩:∃ n',n=n' + 1:=⟨n - 1,by omega⟩
      simp [tval,isAggB,run_equalIn_int w n' t k k0 _ _ hu,prs]
    ·cases h
   ·cases h
  ·rename_i hu
   split at h
   ·rename_i a xs1 b ys1
    split at h
    ·rename_i hs
     simp at hs h
     obtain ⟨rfl,rfl,rfl⟩:=h
     match vx,vy,hx,hy with
     | u :: vx,v :: vy,hx,hy =>
      obtain ⟨⟨_,hb1,rfl⟩,hx⟩:=hx
      obtain ⟨⟨_,hb2,rfl⟩,hy⟩:=hy
      refine ⟨1,_,hu,hs,fun _=>rfl,by simp,by simp,hx,hy,fun n hn w=>?_⟩
      obtain ⟨n',rfl⟩:∃ n',n=n' + 1:=⟨n - 1,by omega⟩
      have e:∀ x y:Int,0 ≤ x ∧ x ≤ 1 → 0 ≤ y ∧ y ≤ 1 → (decide (x ≠ 0) == decide (y ≠ 0))=(x == y):=by
       intro x y h1 h2
       have h3:x=0 ∨ x=1:=by omega
       have h4:y=0 ∨ y=1:=by omega
       rcases h3 with rfl | rfl <;> rcases h4 with rfl | rfl <;> rfl
      have:=run_equalIn_bool' w n' t (decide (a.ev m.env ≠ 0)) (decide (b.ev m.env ≠ 0)) hu
      rw [e _ _ hb1 hb2] at this
      simpa [tval,isAggB,prs] using this
    ·cases h
   ·cases h
  ·rename_i len e hu
   split at h
   ·rename_i hs
    simp at hs
    cases he:szOf P e with
    | none =>
     cases len with
     | zero =>
      simp [he] at hs
      unfold szOf at hs
      cases hi:P.info? t with
      | none=>unfold Program.underlying at hu; simp [hi] at hu
      | some i=>simp [hi] at hs
     | succ len =>
      simp [he] at hs
      unfold szOf at hs
      cases hi:P.info? t with
      | none=>unfold Program.underlying at hu; simp [hi] at hu
      | some i=>simp [hi] at hs
    | some s =>
     rw [he] at hs
     simp at hs
     cases hde:P.underlying e with
     | none =>
      unfold szOf at he
      unfold Program.underlying at hde
      cases hi:P.info? e with
      | none=>simp [hi] at he
      | some i =>
       cases len with
       | zero =>
        simp [eqN] at h
        obtain ⟨rfl,rfl,rfl⟩:=h
        simp at hs
        refine ⟨0,_,hu,hs,fun ha=>by simp [isAggB] at ha,by simp,by simp,hx,hy,fun n hn w=>?_⟩
        obtain ⟨n',rfl⟩:∃ n',n=n' + 1:=⟨n - 1,by omega⟩
        have hs':szOf P e=some s:=by unfold szOf; exact he
        simp [tval,isAggB,run_equalIn_array w n' t e 0 s _ _ hu hs',Op.eqItems,prs]
       | succ len =>
        unfold eqN at h
        split at h
        ·cases h
        ·rename_i r hr
         obtain ⟨r1,r2,r3⟩:=r
         obtain ⟨s',ds,h1,_⟩:=ih e _ _ _ _ _ hr _ _ hx hy
         unfold Program.underlying at h1
         rw [hde] at h1; cases h1
     | some de =>
      have h0:=eqN_ok (ih e) he hde len xs ys ps xs' ys' h vx vy 0 (len * s) (by simp) (by simpa using hx) (by simpa using hy)
      simp only [Nat.zero_add] at h0
      obtain ⟨g1,g2,g3,g4⟩:=h0
      refine ⟨len * s,_,hu,hs,fun ha=>by simp [isAggB] at ha,?_,?_,g2,g3,fun n hn w=>?_⟩
      ·by_cases h0:len=0
       ·subst h0; simp
       ·exact (g1 h0).1
      ·by_cases h0:len=0
       ·subst h0; simp
       ·exact (g1 h0).2
      ·obtain ⟨n',rfl⟩:∃ n',n=n' + 1:=⟨n - 1,by omega⟩
       simp only [tval,isAggB,if_true,run_equalIn_array w n' t e len s _ _ hu he]
       exact g4 n' (by omega) w
   ·cases h
  ·rename_i fs hu
   split at h
   ·cases h
   ·rename_i hst
    split at h
    ·rename_i r hr
     obtain ⟨r1,r2,r3,r4⟩:=r
     split at h
     ·rename_i hs
      simp at hs h
      obtain ⟨rfl,rfl,rfl⟩:=h
      obtain ⟨hle,hrest⟩:=eqFs_ok (d:=d) ih fs.toList 0 _ _ _ _ _ _ hr
      obtain ⟨g1,g2,g3,g4⟩:=hrest vx vy r2 (Nat.le_refl _) (by simpa using hx) (by simpa using hy)
      refine ⟨r2,_,hu,hs,fun ha=>by simp [isAggB] at ha,by omega,by omega,g2,g3,fun n hn w=>?_⟩
      obtain ⟨n',rfl⟩:∃ n',n=n' + 1:=⟨n - 1,by omega⟩
      have hf:P.fieldsOf t=fs:=by simp [Program.fieldsOf,hu]
      have:=run_equalIn_agg w n' t (vx.take r2).toArray (vy.take r2).toArray (by rw [hf]; exact hu) (by simpa using hst)
      simp only [tval,isAggB,if_true,this,hf]
      exact g4 n' (by omega) w
     ·cases h
    ·cases h
  ·cases h
end
section
variable {P:Program} {T:List K} {w0:World} {m:M} {σ:St} {a:Act} {w:World} {o:Oper} {nn nid:Nat} {p:Plan}
def eqRes (op:BinOp) (b:Bool):Bool:=match op with | .eql=>b | _=>!b
theorem run_bin_other {op:BinOp} {t:TypeId} {vx vy:Value} {b:Bool} {G:Sem Unit} (hop:op=.eql ∨ op=.neq) (k1:(Go.Op.equal t vx vy).run P w=.ok b w) (k2:G.run P w=.ok () w)
  (k3:∀ k n,vx ≠ .int k n) (k4:∀ k n,vx ≠ .float k n) (k5:∀ k n r,vx ≠ .complex k n r) (k6:∀ s,vx ≠ .string s) :
  (do pure (Next.value (← (do G; binOp op t vx vy))):Sem Next).run P w=.ok (.value (.bool (eqRes op b))) w:=by
 rcases hop with rfl | rfl
 ·have hb:(binOp .eql t vx vy).run P w=.ok (.bool b) w:=by
   cases vx <;> first
    | (exfalso; first | exact k3 _ _ rfl | exact k4 _ _ rfl | exact k5 _ _ _ rfl | exact k6 _ rfl)
    | (show Sem.run P (Go.Op.equal t _ vy >>= fun r=>pure (Value.bool r)) w=_; simp [k1])
  simp [k2,hb,eqRes]
 ·have hb:(binOp .neq t vx vy).run P w=.ok (.bool (!b)) w:=by
   cases vx <;> first
    | (exfalso; first | exact k3 _ _ rfl | exact k4 _ _ rfl | exact k5 _ _ _ rfl | exact k6 _ rfl)
    | (show Sem.run P (Go.Op.equal t _ vy >>= fun r=>pure (Value.bool (!r))) w=_; simp [k1])
  simp [k2,hb,eqRes]
theorem eqNil_ok {d:TypeDesc} {t:TypeId} {c e:C} {b:Bool} {vx vy:Value} {nv:Nat} {al:Nat → Bool} (hu:P.underlying t=some d) (hb:eqNil d c e=some b) (h1:c.rel m nv al vx) (h2:e.rel m nv al vy) (x y:Operand) :
  (∀ n,(Go.Op.equalIn (n + 1) t vx vy).run P w=.ok b w) ∧ (∀ op,(eqGuard op t x y vx vy).run P w=.ok () w) ∧
   (∀ k n,vx ≠ .int k n) ∧ (∀ k n,vx ≠ .float k n) ∧ (∀ k n r,vx ≠ .complex k n r) ∧ (∀ s,vx ≠ .string s):=by
 unfold eqNil at hb
 split at hb <;> cases hb <;> simp only [C.rel] at h1 h2
 all_goals (try replace h1:=h1.2)
 all_goals (try replace h2:=h2.2)
 all_goals (subst h1; subst h2; refine ⟨fun n=>?_,fun op=>?_,by simp,by simp,by simp,by simp⟩)
 all_goals first
  | (cases op <;> simp [eqGuard]; done)
  | (simp only [Go.Op.equalIn,Sem.run_bind,run_underlying hu,Result.andThen_ok]; rfl)
theorem rowNil_spec {op:BinOp} {t:TypeId} {u v:V} {q:Plan} (h:rowNil P σ op t nn u v=some q):∃ id r e n,u=.one (.sl id) ∧ v=.one .nilslice ∧ σ.row id=some r ∧ P.underlying t=some (.slice e) ∧
  (op=.eql ∧ n=0 ∨ op=.neq ∧ n=1) ∧ q={val:=.vl (.one (.bool (.lit n))),defs:=[(.int .i64,.llen r.x0),(.bit,.cmp .lss (.lit 0) (.var nn))],nz:=[.var (nn + 1)] }:=by
 unfold rowNil at h
 split at h
 ·split at h
  ·rename_i id r e hr hu
   split at h
   ·cases h; exact ⟨_,_,_,_,rfl,rfl,hr,hu,.inl ⟨rfl,rfl⟩,rfl⟩
   ·cases h; exact ⟨_,_,_,_,rfl,rfl,hr,hu,.inr ⟨rfl,rfl⟩,rfl⟩
   ·cases h
  ·cases h
 ·cases h
theorem pure_binOp {op:BinOp} {t yt:TypeId} {x y:Operand} (h:Rep w0 m σ a w) (ho:o.op=.binOp op t x y yt) (hp:plan P T σ nn nid o.op=.ok p)
  (hd:DefsOk T m.env σ.nv nn p.defs) (hz:∀ x ∈ p.nz,x.ev m.env ≠ 0):PureOk P m σ a w o p.val:=by
 rw [ho] at hp
 simp only [plan] at hp
 split at hp
 ·rename_i u v hu hv
  have h1:=h.v_ hu
  have h2:=h.v_ hv
  split at hp
  ·rename_i q hq
   cases hp
   obtain ⟨id,r,e,n,rfl,rfl,hr,hut,hn,rfl⟩:=rowNil_spec hq
   obtain ⟨q1,q2,q5,q6,q3⟩:=h.row_ok hr
   have hvx:a.eval x=m.sv id:=h1.2.1
   have hvy:a.eval y=.slice none 0 0:=h2
   have d0:m.env nn=((dec (r.x.ev m.env)).length:Int):=by
    have:=DefsOk.snd (i:=0) hd rfl
    simpa [D.ev,q6] using this
   have d1:m.env (nn + 1)=b2i (decide ((0:Int) < m.env nn)):=(hd.2 1 _ _ rfl).1
   have hz1:(0:Int) < m.env nn:=by
    have hz1:m.env (nn + 1) ≠ 0:=hz (.var (nn + 1)) (by simp)
    rw [d1] at hz1
    by_cases hc:(0:Int) < m.env nn
    ·exact hc
    ·simp [hc,b2i] at hz1
   obtain ⟨ad,cap,hsv⟩:=q3.here (by omega)
   have heq:∀ n,(Go.Op.equalIn (n + 1) t (m.sv id) (.slice none 0 0)).run P w=.ok false w:=fun n=>by
    rw [hsv]; simp only [Go.Op.equalIn,Sem.run_bind,run_underlying hut,Result.andThen_ok]; rfl
   have hgu:∀ op,(eqGuard op t x y (m.sv id) (.slice none 0 0)).run P w=.ok () w:=fun op=>by rw [hsv]; cases op <;> simp [eqGuard]
   have fin:∀ {op:BinOp},(op=.eql ∨ op=.neq) → o.op=.binOp op t x y yt → (execOp a.eval o).run P w=.ok (.value (.bool (eqRes op false))) w:=by
    intro op hop ho
    simp only [execOp,ho,hvx,hvy]
    exact run_bin_other hop (heq 9999) (hgu op) (by rw [hsv]; simp) (by rw [hsv]; simp) (by rw [hsv]; simp) (by rw [hsv]; simp)
   rcases hn with ⟨rfl,rfl⟩ | ⟨rfl,rfl⟩
   ·exact ⟨_,fin (.inl rfl) ho,⟨trivial,trivial⟩,by simp [A.ev],rfl⟩
   ·exact ⟨_,fin (.inr rfl) ho,⟨trivial,trivial⟩,by simp [A.ev],rfl⟩
  rename_i hnone
  clear hnone
  unfold planBin at hp
  split at hp
  ·exact binInt_ok ho h1 h2 hp hd hz
  ·rename_i c d
   obtain ⟨hc1,hc2,hc3⟩:=h1
   obtain ⟨hd1,hd2,hd3⟩:=h2
   have e:∀ x y:Int,0 ≤ x ∧ x ≤ 1 → 0 ≤ y ∧ y ≤ 1 → (decide (x ≠ 0) == decide (y ≠ 0))=(x == y):=by
    intro x y h1 h2
    have h3:x=0 ∨ x=1:=by omega
    have h4:y=0 ∨ y=1:=by omega
    rcases h3 with rfl | rfl <;> rcases h4 with rfl | rfl <;> rfl
   split at hp
   ·rename_i ht
    obtain ⟨z,hz,hk,he⟩:=mkP_ok hp hd
    rw [hz]
    refine ⟨.bool (decide (c.ev m.env ≠ 0) == decide (d.ev m.env ≠ 0)),?_,hk,?_,?_⟩
    ·simp only [execOp,ho,hc3,hd3]
     simp [run_eqGuard_bool,run_bin_bool ht (.inl rfl)]
    ·rw [he]; exact b2i_bit _
    ·rw [he,e _ _ hc2 hd2]; exact congrArg Value.bool (decide_b2i _).symm
   ·rename_i ht
    obtain ⟨z,hz,hk,he⟩:=mkP_ok hp hd
    rw [hz]
    refine ⟨.bool (decide (c.ev m.env ≠ 0) != decide (d.ev m.env ≠ 0)),?_,hk,?_,?_⟩
    ·simp only [execOp,ho,hc3,hd3]
     simp [run_eqGuard_bool,run_bin_bool ht (.inr rfl)]
    ·rw [he]; exact b2i_bit _
    ·rw [he,bne,e _ _ hc2 hd2]; exact congrArg Value.bool (decide_b2i _).symm
   ·cases hp
  ·rename_i c d
   obtain ⟨hc1,hc2,hc3⟩:=h1
   obtain ⟨hd1,hd2,hd3⟩:=h2
   have e:=str_eq hc2 hd2
   split at hp
   ·obtain ⟨z,hz,hk,he⟩:=mkP_ok hp hd
    rw [hz]
    refine ⟨.bool (dec (c.ev m.env) == dec (d.ev m.env)),?_,hk,?_,?_⟩
    ·have hr:(binOp .eql t (.string (strOfNums (dec (c.ev m.env)))) (.string (strOfNums (dec (d.ev m.env))))).run P w=.ok (.bool (dec (c.ev m.env) == dec (d.ev m.env))) w:=by rw [← e]; exact (run_bin_str (op:=.eql)).1
     simp only [execOp,ho,hc3,hd3]
     simp [run_eqGuard_str,hr]
    ·rw [he]; exact b2i_bit _
    ·rw [he]; exact congrArg Value.bool (decide_b2i _).symm
   ·cases hp
    have d0:=hd.2 0 _ _ rfl
    have d1:=hd.2 1 _ _ rfl
    have hlt:=hd.1
    simp only [List.length_cons,List.length_nil] at hlt
    have d0:m.env nn=b2i (dec (c.ev m.env) == dec (d.ev m.env)):=d0.1
    have d1:m.env (nn + 1)=if m.env nn=0 then 1 else 0:=d1.1
    refine ⟨.bool (!(dec (c.ev m.env) == dec (d.ev m.env))),?_,⟨by show nn + 1 < σ.nv; omega,trivial⟩,?_,?_⟩
    ·have hr:(binOp .neq t (.string (strOfNums (dec (c.ev m.env)))) (.string (strOfNums (dec (d.ev m.env))))).run P w=.ok (.bool (!(dec (c.ev m.env) == dec (d.ev m.env)))) w:=by rw [← e]; exact (run_bin_str (op:=.eql)).2
     simp only [execOp,ho,hc3,hd3]
     simp [run_eqGuard_str,hr]
    ·show 0 ≤ m.env (nn + 1) ∧ m.env (nn + 1) ≤ 1
     rw [d1]; split <;> simp
    ·show Value.bool _=Value.bool (decide (m.env (nn + 1) ≠ 0))
     rw [d1,d0]
     cases dec (c.ev m.env) == dec (d.ev m.env) <;> simp [b2i]
   ·cases hp
  ·rename_i c d
   have h1:a.eval x=.string c:=h1
   have h2:a.eval y=.string d:=h2
   split at hp
   ·cases hp
    refine ⟨.bool (c.data.toList == d.data.toList),?_,⟨trivial,trivial⟩,b2i_bit _,?_⟩
    ·have hr:(binOp .eql t (.string c) (.string d)).run P w=.ok (.bool (c.data.toList == d.data.toList)) w:=by rw [← ByteArray.toList_eq,← ByteArray.toList_eq]; exact (run_bin_str (op:=.eql)).1
     simp only [execOp,ho,h1,h2]
     simp [run_eqGuard_str,hr]
    ·exact congrArg Value.bool (decide_b2i _).symm
   ·cases hp
    refine ⟨.bool (!(c.data.toList == d.data.toList)),?_,⟨trivial,trivial⟩,b2i_bit _,?_⟩
    ·have hr:(binOp .neq t (.string c) (.string d)).run P w=.ok (.bool (!(c.data.toList == d.data.toList))) w:=by rw [← ByteArray.toList_eq,← ByteArray.toList_eq]; exact (run_bin_str (op:=.eql)).2
     simp only [execOp,ho,h1,h2]
     simp [run_eqGuard_str,hr]
    ·exact congrArg Value.bool (decide_b2i _).symm
   ·cases hp
  ·rename_i xs ys
   obtain ⟨vx,hx1,hx2⟩:=h1
   obtain ⟨vy,hy1,hy2⟩:=h2
   split at hp
   ·cases hp
   ·rename_i hg
    split at hp
    ·rename_i l hl
     obtain ⟨s,ds,g1,g2,g3,g4,g5,g6,g7,g8⟩:=eqW_ok 20 t _ _ _ _ _ hl _ _ hx2 hy2
     have e1:vx.length ≤ s:=by have:=Rels.length g6; simp at this; omega
     have e2:vy.length ≤ s:=by have:=Rels.length g7; simp at this; omega
     rw [List.take_of_length_le e1,List.take_of_length_le e2] at g8
     have hag:isAggB ds=true:=by simp [g1] at hg; exact hg.2
     have hgt:P.eqGuardType P.depth t=false:=by simp [g1] at hg; exact hg.1
     have key:(Go.Op.equalIn 10000 t (.agg vx.toArray) (.agg vy.toArray)).run P w=.ok (prs m l) w:=by
      have:=g8 10000 (by omega) w
      simpa [tval,hag] using this
     have fin:∀ {op:BinOp} {r:Value},o.op=.binOp op t x y yt → (binOp op t (.agg vx.toArray) (.agg vy.toArray)).run P w=.ok r w → (execOp a.eval o).run P w=.ok (.value r) w:=by
      intro op r ho hr
      simp only [execOp,ho,hx1,hy1]
      simp [run_eqGuard_agg w op t x y _ _ hgt,hr]
     split at hp
     ·obtain ⟨z,hz,hk,he⟩:=mkP_ok hp hd
      rw [hz]
      refine ⟨.bool (prs m l),fin ho (by rw [run_eql_struct,key]; rfl),hk,?_,?_⟩
      ·rw [he]; exact b2i_bit _
      ·rw [he]; exact congrArg Value.bool (decide_b2i _).symm
     ·have key2:(execOp a.eval o).run P w=.ok (.value (.bool (!prs m l))) w:=fin ho (by rw [run_neq_struct,key]; rfl)
      split at hp
      ·rename_i n hn
       cases hp
       have h3:=litD_ev (T:=T) hn m.env
       simp only [D.ev] at h3
       have h4:b2i (prs m l)=n:=h3
       refine ⟨_,key2,⟨trivial,trivial⟩,?_,?_⟩
       ·simp only [A.ev]; split <;> simp
       ·rw [← h4]; cases prs m l <;> simp [A.ev,b2i]
      ·cases hp
       have d1:=hd.2 0 _ _ rfl
       have d2:=hd.2 1 _ _ rfl
       have h0:=hd.1
       simp only [List.length_cons,List.length_nil] at h0
       simp only [Nat.add_zero,D.ev] at d1 d2
       have h4:m.env nn=b2i (prs m l):=d1.1
       have h5:m.env (nn + 1)=if m.env nn=0 then 1 else 0:=d2.1
       refine ⟨_,key2,⟨show nn + 1 < σ.nv by omega,trivial⟩,?_,?_⟩
       ·simp only [A.ev,h5]; split <;> simp
       ·simp only [A.ev,h5,h4]; cases prs m l <;> simp [b2i]
     ·cases hp
    ·cases hp
  ·rename_i c d hnn1 hnn2
   split at hp
   ·rename_i ds hud
    split at hp
    ·rename_i b hb
     obtain ⟨k0,k2,k3,k4,k5,k6⟩:=eqNil_ok hud hb h1 h2 (w:=w) x y
     have k1:(Go.Op.equal t (a.eval x) (a.eval y)).run P w=.ok b w:=k0 9999
     have fin:∀ {op:BinOp},(op=.eql ∨ op=.neq) → o.op=.binOp op t x y yt → (execOp a.eval o).run P w=.ok (.value (.bool (eqRes op b))) w:=by
      intro op hop ho
      simp only [execOp,ho]
      exact run_bin_other hop k1 (k2 op) k3 k4 k5 k6
     split at hp
     ·cases hp
      refine ⟨_,fin (.inl rfl) ho,⟨trivial,trivial⟩,b2i_bit _,?_⟩
      exact congrArg Value.bool (decide_b2i _).symm
     ·cases hp
      refine ⟨_,fin (.inr rfl) ho,⟨trivial,trivial⟩,b2i_bit _,?_⟩
      exact congrArg Value.bool (decide_b2i _).symm
     ·cases hp
    ·cases hp
   ·cases hp
  ·cases hp
 ·cases hp
end
section
variable {P:Program} {w:World}
theorem run_sliceBound {v:Value} {k:IntKind} {n y:Nat} {code:BoundsCode} (hv:v=.int k (n:Int)) (hn:n ≤ y):(Instr.sliceBound v y code).run P w=.ok n w:=by
 subst hv
 simp [Instr.sliceBound,asIntOf]
 omega
theorem run_sliceBounds {b:Bool} {len cap:Nat} {lo hi:Option Value} {l h:Option Nat} (hl:∀ v,lo=some v → ∃ n k,l=some n ∧ v=.int k (n:Int)) (hl0:lo=none → l=none)
  (hh:∀ v,hi=some v → ∃ n k,h=some n ∧ v=.int k (n:Int)) (hh0:hi=none → h=none) (h1:h.getD len ≤ cap) (h2:l.getD 0 ≤ h.getD len) :
  (Instr.sliceBounds b len cap lo hi none).run P w=.ok (l.getD 0,h.getD len,cap) w:=by
 cases hi with
 | none =>
  rw [hh0 rfl] at h1 h2 ⊢
  cases lo with
  | none=>rw [hl0 rfl]; simp [Instr.sliceBounds]
  | some v=>obtain ⟨n,k,rfl,hv⟩:=hl v rfl; simp at h1 h2; simp [Instr.sliceBounds,run_sliceBound hv h2]
 | some u =>
  obtain ⟨n',k',rfl,hu⟩:=hh u rfl
  simp at h1 h2
  cases lo with
  | none=>rw [hl0 rfl]; simp [Instr.sliceBounds,run_sliceBound hu h1]
  | some v=>obtain ⟨n,k,rfl,hv⟩:=hl v rfl; simp at h2; simp [Instr.sliceBounds,run_sliceBound hv h2,run_sliceBound hu h1]
end
theorem foldl_set (off:Nat):∀ (v:List Value) (k:Nat) (l:List Value),off + k + v.length ≤ l.length →
  (v.zipIdx k).foldl (fun cs (p:Value × Nat)=>cs.set (off + p.2) p.1) l=l.take (off + k) ++ v ++ l.drop (off + k + v.length)
 | [],k,l,_=>by simp
 | x :: v,k,l,h=>by
  simp only [List.zipIdx_cons,List.foldl_cons,List.length_cons] at h ⊢
  rw [foldl_set off v (k + 1) _ (by simp; omega)]
  have e:=list_seg_step l (off + k) x v (by omega)
  simpa [Nat.add_assoc] using e
theorem foldl_arr (off:Nat) (v cells:Array Value) (h:off + v.size ≤ cells.size) :
  v.zipIdx.foldl (fun cs (x:Value × Nat)=>cs.setIfInBounds (off + x.2) x.1) cells=(cells.toList.take off ++ v.toList ++ cells.toList.drop (off + v.size)).toArray:=by
 have h0:=foldl_set off v.toList 0 cells.toList (by simpa using h)
 simp only [Nat.add_zero,Array.length_toList] at h0
 apply Array.ext'
 rw [← h0,← Array.foldl_toList,Array.toList_zipIdx]
 generalize v.toList.zipIdx 0=l
 clear h h0
 induction l generalizing cells with
 | nil=>rfl
 | cons x l ih=>simp only [List.foldl_cons]; rw [ih]; congr 1; simp
section
variable {P:Program} {T:List K} {w0:World} {m:M} {σ:St} {a:Act} {w:World} {o:Oper} {nn nid:Nat} {p:Plan}
theorem fill_ok {nv:Nat} {al:Nat → Bool} {place:Nat → Option (Nat × Nat)}:∀ (parts:List (Nat × Value)) (l:List (Nat × List C)),l.all (fun p=>p.2.all C.solid)=true →
  (l.length=parts.length ∧ ∀ (i:Nat) p q,l[i]?=some p → parts[i]?=some q → p.1=q.1 ∧ ∃ vs:List Value,q.2.cells=vs.toArray ∧ Rels m nv al p.2 vs) →
  ∀ (cells cs:List C) (zs:List Value),Rels m nv al cells zs → fillC place cells l=some cs → ∃ vs:List Value,Instr.fill place zs.toArray parts=some vs.toArray ∧ Rels m nv al cs vs:=by
 intro parts
 induction parts with
 | nil =>
  intro l _ hl cells cs zs hz h
  cases l with
  | nil=>simp [fillC] at h; subst h; exact ⟨zs,rfl,hz⟩
  | cons x l=>simp at hl
 | cons q parts ih =>
  intro l hs hl cells cs zs hz h
  cases l with
  | nil=>simp at hl
  | cons x l =>
   simp only [List.all_cons,Bool.and_eq_true] at hs
   obtain ⟨hlen,hrel⟩:=hl
   obtain ⟨h1,vs,h2,h3⟩:=hrel 0 x q rfl rfl
   obtain ⟨xi,xv⟩:=x
   obtain ⟨qi,qv⟩:=q
   simp only at h1 h2 h3
   subst h1
   unfold fillC at h
   unfold Instr.fill
   split at h
   ·cases h
   ·rename_i off size hp
    rw [hp]
    split at h
    ·cases h
    ·rename_i hn
     simp only [ne_eq,Bool.or_eq_true,decide_eq_true_eq,not_or,decide_not,Bool.not_eq_eq_eq_not,Bool.not_true] at hn
     have hlen':=Rels.length h3
     have hlz:=Rels.length hz
     have hc1:qv.cells.size=size:=by rw [h2]; simp; simp at hn; omega
     have hc2:¬ off + qv.cells.size > zs.toArray.size:=by rw [h2]; simp; simp at hn; omega
     simp only [hc1,ne_eq,not_true_eq_false,decide_false,Bool.false_or]
     rw [hc1] at hc2
     rw [if_neg (by simpa using hc2)]
     have hfold:=foldl_arr off qv.cells zs.toArray (by rw [hc1]; simpa using hc2)
     refine (ih l hs.2 ⟨by simpa using hlen,fun i p q hp hq=>hrel (i + 1) p q (by simpa using hp) (by simpa using hq)⟩ _ cs (zs.take off ++ vs ++ zs.drop (off + vs.length)) ?_ h).imp ?_
     ·rw [hlen']
      exact ((hz.take off).append h3).append (hz.drop _)
     ·rintro us ⟨hu1,hu2⟩
      refine ⟨?_,hu2⟩
      rw [← hu1]
      congr 1
      rw [hfold,h2]
      simp
theorem parts_ok (h:Rep w0 m σ a w):∀ (ps:List (Nat × Operand)) (l:List (Nat × List C)),mapO (partOf σ) ps=some l →
  l.all (fun p=>p.2.all C.solid)=true →
  (l.length=(ps.map fun (i,x)=>(i,a.eval x)).length ∧ ∀ (i:Nat) p q,l[i]?=some p → (ps.map fun (i,x)=>(i,a.eval x))[i]?=some q → p.1=q.1 ∧ ∃ vs:List Value,q.2.cells=vs.toArray ∧ Rels m σ.nv σ.al p.2 vs):=by
 intro ps
 induction ps with
 | nil=>intro l hl _; simp [mapO] at hl; subst hl; simp
 | cons x ps ih =>
  intro l hl hs
  unfold mapO at hl
  split at hl
  ·cases hl
  ·rename_i y hy
   split at hl
   ·cases hl
   ·rename_i ys hys
    cases hl
    simp only [List.all_cons,Bool.and_eq_true] at hs
    obtain ⟨h1,h2⟩:=ih ys hys hs.2
    refine ⟨by simpa using h1,fun i p q hp hq=>?_⟩
    cases i with
    | zero =>
     simp at hp hq
     subst hp hq
     unfold partOf at hy
     split at hy
     ·rename_i v hv
      cases hy
      obtain ⟨vs,g1,g2,_⟩:=V.rel_cells (h.v_ hv) hs.1
      exact ⟨rfl,vs,g1,g2⟩
     ·cases hy
    | succ i=>exact h2 i p q (by simpa using hp) (by simpa using hq)
end
section
variable {P:Program} {T:List K} {w0:World} {m:M} {σ:St} {a:Act} {w:World} {o:Oper} {nn nid:Nat} {p:Plan}
theorem bounds_opt (h:Rep w0 m σ a w) {lo:Option Operand} {l:Option Nat} (hl:bndOf σ lo=some l) :
  (∀ v,lo.map a.eval=some v → ∃ n k,l=some n ∧ v=.int k (n:Int)) ∧ (lo.map a.eval=none → l=none):=by
 unfold bndOf at hl
 cases lo with
 | none=>simp at hl; subst hl; simp
 | some x =>
  simp only at hl
  cases hi:idx σ x with
  | none=>simp [hi] at hl
  | some n =>
   simp [hi] at hl
   subst hl
   obtain ⟨k,hk⟩:=idx_int h hi
   refine ⟨fun v hv=>?_,by simp⟩
   simp at hv
   exact ⟨n,k,rfl,by rw [← hv,hk]⟩
theorem at_slice (m:M) (id off l s:Nat) (b:Prop) [Decidable b]:(if b then m.at id off else (m.at id off).add (l * s))=m.at id (if b then off else off + l * s):=by
 split
 ·rfl
 ·rw [at_add]
theorem bndA_ok (h:Rep w0 m σ a w) {o:Option Operand} {l:Option A} (hl:bndA σ o=some l) :
  (∀ v,o.map a.eval=some v → ∃ y k,l=some y ∧ y.wf σ.nv m.env ∧ v=.int k (y.ev m.env)) ∧ (o.map a.eval=none → l=none):=by
 unfold bndA at hl
 cases o with
 | none=>simp at hl; subst hl; simp
 | some x =>
  simp only at hl
  split at hl
  ·rename_i k y hc
   cases hl
   have h1:=h.cell hc
   refine ⟨fun v hv=>?_,by simp⟩
   simp at hv
   exact ⟨y,k,rfl,h1.1,by rw [← hv,h1.2.2]⟩
  ·cases hl
theorem bit_yes {b:Prop} [Decidable b] (h:b2i (decide b) ≠ 0):b:=by
 by_cases hc:b
 ·exact hc
 ·simp [hc,b2i] at h
theorem part_pure {t e:TypeId} {x:Operand} {lo hi:Option Operand} (h:Rep w0 m σ a w) (ho:o.op=.slice t x lo hi none) (hu:P.underlying t=some (.slice e)) {id:Nat} {r:Row} {s:Nat} (hr:σ.row id=some r)
  (hs:szOf P e=some s) (hsz:s=r.k.sz) {l h':Option A} (hl:bndA σ lo=some l) (hh:bndA σ hi=some h') {d:A} {n:Nat} (hd:hi=none → d.wf σ.nv m.env ∧ d.ev m.env=(n:Int))
  {b:Option Addr} {n0 cap:Nat} (hv:a.eval x=.slice b n cap) (hsv:m.sv id=.slice b n0 cap) (hp:partP nn id r (l.getD (.lit 0)) (h'.getD d)=.ok p)
  (hdf:DefsOk T m.env σ.nv nn p.defs) (hz:∀ x ∈ p.nz,x.ev m.env ≠ 0):PureOk P m σ a w o p.val:=by
 obtain ⟨q1,q2,q5,q6,q3⟩:=h.row_ok hr
 unfold partP at hp
 cases hp
 have hlv:=q3.lenV
 rw [hsv] at hlv
 have hlv:n0=(dec (A.ev m.env r.x)).length:=hlv
 have hcap:n0 ≤ cap:=by
  rcases q3.form with ⟨f1,f2⟩ | ⟨ad,c,f1,f2⟩
  ·rw [f2] at hlv; simp at hlv; omega
  ·rw [hsv] at f1; cases f1; exact f2
 have hbig:=q3.1.1
 obtain ⟨bl1,bl2⟩:=bndA_ok h hl
 obtain ⟨bh1,bh2⟩:=bndA_ok h hh
 generalize hlo:l.getD (.lit 0)=loA at *
 generalize hhi:h'.getD d=hiA at *
 have d0:m.env nn=(n0:Int):=by
  have:=(hdf.2 0 _ _ rfl).1
  simpa [D.ev,q6,← hlv] using this
 have d1:m.env (nn + 1)=b2i (decide (0 ≤ loA.ev m.env)):=(hdf.2 1 _ _ rfl).1
 have d2:m.env (nn + 2)=b2i (decide (loA.ev m.env ≤ hiA.ev m.env)):=(hdf.2 2 _ _ rfl).1
 have d3:m.env (nn + 3)=b2i (decide (hiA.ev m.env ≤ m.env nn)):=(hdf.2 3 _ _ rfl).1
 have z1:0 ≤ loA.ev m.env:=bit_yes (by rw [← d1]; exact hz (.var (nn + 1)) (by simp))
 have z2:loA.ev m.env ≤ hiA.ev m.env:=bit_yes (by rw [← d2]; exact hz (.var (nn + 2)) (by simp))
 have z3:hiA.ev m.env ≤ m.env nn:=bit_yes (by rw [← d3]; exact hz (.var (nn + 3)) (by simp))
 rw [d0] at z3
 obtain ⟨x0,hx0⟩:=Int.eq_ofNat_of_zero_le z1
 obtain ⟨x1,hx1⟩:=Int.eq_ofNat_of_zero_le (Int.le_trans z1 z2)
 rw [hx0,hx1] at z2
 rw [hx1] at z3
 have wlo:loA.wf σ.nv m.env ∧ (lo=none → l=none ∧ x0=0):=by
  cases lo with
  | none =>
   have:=bl2 rfl
   subst this
   simp at hlo; subst hlo
   exact ⟨⟨trivial,trivial⟩,fun _=>⟨rfl,by simp [A.ev] at hx0; omega⟩⟩
  | some z =>
   obtain ⟨y,k,e1,e2,_⟩:=bl1 _ rfl
   subst e1
   simp at hlo; subst hlo
   exact ⟨e2,fun h=>by cases h⟩
 have whi:hiA.wf σ.nv m.env ∧ (hi=none → h'=none ∧ x1=n):=by
  cases hi with
  | none =>
   have:=bh2 rfl
   subst this
   simp at hhi; subst hhi
   obtain ⟨e1,e2⟩:=hd rfl
   exact ⟨e1,fun _=>⟨rfl,by rw [e2] at hx1; omega⟩⟩
  | some z =>
   obtain ⟨y,k,e1,e2,_⟩:=bh1 _ rfl
   subst e1
   simp at hhi; subst hhi
   exact ⟨e2,fun h=>by cases h⟩
 have hsb:=run_sliceBounds (P:=P) (w:=w) (b:=true) (len:=n) (cap:=cap) (lo:=lo.map a.eval) (hi:=hi.map a.eval) (l:=lo.map fun _=>x0) (h:=hi.map fun _=>x1)
  (fun v hv=>by
   cases lo with
   | none=>cases hv
   | some z =>
    obtain ⟨y,k,e1,e2,e3⟩:=bl1 v hv
    subst e1
    simp at hlo; subst hlo
    exact ⟨x0,k,rfl,by rw [e3,hx0]⟩)
  (fun e=>by cases lo with | none=>rfl | some z=>cases e)
  (fun v hv=>by
   cases hi with
   | none=>cases hv
   | some z =>
    obtain ⟨y,k,e1,e2,e3⟩:=bh1 v hv
    subst e1
    simp at hhi; subst hhi
    exact ⟨x1,k,rfl,by rw [e3,hx1]⟩)
  (fun e=>by cases hi with | none=>rfl | some z=>cases e)
  (by cases hi with
   | none=>have:=(whi.2 rfl).2; simp; omega
   | some z=>simp; omega)
  (by
   have e1:(lo.map fun _=>x0).getD 0=x0:=by cases lo with | none=>exact (wlo.2 rfl).2.symm | some z=>rfl
   have e2:(hi.map fun _=>x1).getD n=x1:=by cases hi with | none=>exact (whi.2 rfl).2.symm | some z=>rfl
   rw [e1,e2]; omega)
 have e1:(lo.map fun _=>x0).getD 0=x0:=by cases lo with | none=>exact (wlo.2 rfl).2.symm | some z=>rfl
 have e2:(hi.map fun _=>x1).getD n=x1:=by cases hi with | none=>exact (whi.2 rfl).2.symm | some z=>rfl
 rw [e1,e2] at hsb
 refine ⟨subV r.k.sz (m.sv id) x0 x1,?_,q1,wlo.1,whi.1,⟨z1,by rw [hx0,hx1]; exact z2,by rw [hsv,hx1]; exact z3,by omega⟩,.inl (by rw [hx0,hx1]; rfl),sub_one (by rw [hsv]; rfl)⟩
 rw [hsv,← hsz]
 simp only [execOp,ho,hv,Instr.sliceAt,Instr.slice,subV]
 simp [run_underlying hu,hsb,run_sizeOf hs]
theorem view_pure {t e:TypeId} {x:Operand} {lo hi:Option Operand} (h:Rep w0 m σ a w) (ho:o.op=.slice t x lo hi none) (hu:P.underlying t=some (.slice e)) {id:Nat} {r:Row} {s:Nat} (hr:σ.row id=some r)
  (hs:szOf P e=some s) (hsz:s=r.k.sz) {l h':Option A} (hl:bndA σ lo=some l) (hh:bndA σ hi=some h') {lo' hi':A} (hx:C.rel m σ.nv σ.al (.slv id lo' hi' r.k) (a.eval x))
  (hp:partV nn id r lo' hi' (l.getD (.lit 0)) h'=.ok p) (hdf:DefsOk T m.env σ.nv nn p.defs) (hz:∀ x ∈ p.nz,x.ev m.env ≠ 0):PureOk P m σ a w o p.val:=by
 obtain ⟨c1,c2,c3,c4,c5,c6⟩:=hx
 obtain ⟨q1,q2,q5,q6,q3⟩:=h.row_ok hr
 unfold partV at hp
 cases hp
 have hlv:=q3.lenV
 obtain ⟨b,cap,hsv⟩:=q3.len
 rw [q3.lenV] at c4
 have hbig:=q3.1.1
 generalize hn0:(dec (A.ev m.env r.x)).length=n0 at *
 have hcap:n0 ≤ cap ∧ (b=none → cap=0):=by
  rcases q3.form with ⟨f1,f2⟩ | ⟨ad,c,f1,f2⟩
  ·rw [f1] at hsv; rw [f2] at hn0
   cases hsv
   exact ⟨by simp at hn0; omega,fun _=>rfl⟩
  ·rw [hn0] at f1 f2
   rw [hsv] at f1; cases f1; exact ⟨f2,fun e=>by cases e⟩
 obtain ⟨bl1,bl2⟩:=bndA_ok h hl
 obtain ⟨bh1,bh2⟩:=bndA_ok h hh
 have hlen:nn + 8 ≤ σ.nv:=by have:=hdf.1; simp only [List.length_cons,List.length_nil] at this; omega
 generalize hlo:l.getD (.lit 0)=loA at *
 generalize hhi:h'.getD (.var (nn + 2))=hiA at *
 have d0:m.env nn=(n0:Int):=by
  have:=(hdf.2 0 _ _ rfl).1
  simpa [D.ev,q6,hn0] using this
 have d1:m.env (nn + 1)=wr .i64 (m.env nn - lo'.ev m.env):=(hdf.2 1 _ _ rfl).1
 have d2:m.env (nn + 2)=wr .i64 (hi'.ev m.env - lo'.ev m.env):=(hdf.2 2 _ _ rfl).1
 have d3:m.env (nn + 3)=b2i (decide (0 ≤ loA.ev m.env)):=(hdf.2 3 _ _ rfl).1
 have d4:m.env (nn + 4)=b2i (decide (loA.ev m.env ≤ hiA.ev m.env)):=(hdf.2 4 _ _ rfl).1
 have d5:m.env (nn + 5)=b2i (decide (hiA.ev m.env ≤ m.env (nn + 1))):=(hdf.2 5 _ _ rfl).1
 have d6:m.env (nn + 6)=wr .i64 (lo'.ev m.env + loA.ev m.env):=(hdf.2 6 _ _ rfl).1
 have d7:m.env (nn + 7)=wr .i64 (lo'.ev m.env + hiA.ev m.env):=(hdf.2 7 _ _ rfl).1
 have z1:0 ≤ loA.ev m.env:=bit_yes (by rw [← d3]; exact hz (.var (nn + 3)) (by simp))
 have z2:loA.ev m.env ≤ hiA.ev m.env:=bit_yes (by rw [← d4]; exact hz (.var (nn + 4)) (by simp))
 have z3:hiA.ev m.env ≤ m.env (nn + 1):=bit_yes (by rw [← d5]; exact hz (.var (nn + 5)) (by simp))
 rw [d0,wr_id (by simp only [has,Sx.lo,Sx.hi]; omega)] at d1
 rw [wr_id (by simp only [has,Sx.lo,Sx.hi]; omega)] at d2
 rw [d1] at z3
 rw [wr_id (by simp only [has,Sx.lo,Sx.hi]; omega)] at d6 d7
 obtain ⟨x0,hx0⟩:=Int.eq_ofNat_of_zero_le z1
 obtain ⟨x1,hx1⟩:=Int.eq_ofNat_of_zero_le (Int.le_trans z1 z2)
 obtain ⟨y0,hy0⟩:=Int.eq_ofNat_of_zero_le c4.1
 obtain ⟨y1,hy1⟩:=Int.eq_ofNat_of_zero_le (Int.le_trans c4.1 c4.2.1)
 rw [hx0,hx1] at z2
 rw [hx1,hy0] at z3
 rw [hy0,hx0] at d6
 rw [hy0,hx1] at d7
 rw [hy0,hy1] at d2 c4
 rw [hsv,hy0,hy1] at c5
 simp only [Int.toNat_natCast] at c5
 obtain ⟨⟨b',hv⟩,hview⟩:=view_sub (x0:=x0) (x1:=x1) hcap.2 hcap.1 (by omega) (by omega) c5 (by omega) (by omega)
 have wlo:loA.wf σ.nv m.env ∧ (lo=none → l=none ∧ x0=0):=by
  cases lo with
  | none =>
   have:=bl2 rfl
   subst this
   simp at hlo; subst hlo
   exact ⟨⟨trivial,trivial⟩,fun _=>⟨rfl,by simp [A.ev] at hx0; omega⟩⟩
  | some z =>
   obtain ⟨y,k,e1,e2,_⟩:=bl1 _ rfl
   subst e1
   simp at hlo; subst hlo
   exact ⟨e2,fun h=>by cases h⟩
 have whi:hi=none → h'=none ∧ x1=y1 - y0:=by
  cases hi with
  | none =>
   have:=bh2 rfl
   subst this
   simp at hhi; subst hhi
   exact fun _=>⟨rfl,by simp only [A.ev] at hx1; omega⟩
  | some z=>exact fun h=>by cases h
 have hsb:=run_sliceBounds (P:=P) (w:=w) (b:=true) (len:=y1 - y0) (cap:=cap - y0) (lo:=lo.map a.eval) (hi:=hi.map a.eval) (l:=lo.map fun _=>x0) (h:=hi.map fun _=>x1)
  (fun v hv=>by
   cases lo with
   | none=>cases hv
   | some z =>
    obtain ⟨y,k,e1,e2,e3⟩:=bl1 v hv
    subst e1
    simp at hlo; subst hlo
    exact ⟨x0,k,rfl,by rw [e3,hx0]⟩)
  (fun e=>by cases lo with | none=>rfl | some z=>cases e)
  (fun v hv=>by
   cases hi with
   | none=>cases hv
   | some z =>
    obtain ⟨y,k,e1,e2,e3⟩:=bh1 v hv
    subst e1
    simp at hhi; subst hhi
    exact ⟨x1,k,rfl,by rw [e3,hx1]⟩)
  (fun e=>by cases hi with | none=>rfl | some z=>cases e)
  (by cases hi with
   | none=>have:=(whi rfl).2; simp; omega
   | some z=>simp; omega)
  (by
   have e1:(lo.map fun _=>x0).getD 0=x0:=by cases lo with | none=>exact (wlo.2 rfl).2.symm | some z=>rfl
   have e2:(hi.map fun _=>x1).getD (y1 - y0)=x1:=by cases hi with | none=>exact (whi rfl).2.symm | some z=>rfl
   rw [e1,e2]; omega)
 have e1:(lo.map fun _=>x0).getD 0=x0:=by cases lo with | none=>exact (wlo.2 rfl).2.symm | some z=>rfl
 have e2:(hi.map fun _=>x1).getD (y1 - y0)=x1:=by cases hi with | none=>exact (whi rfl).2.symm | some z=>rfl
 rw [e1,e2] at hsb
 have whi2:((h'.map fun _=>A.var (nn + 7)).getD hi').wf σ.nv m.env ∧ ((h'.map fun _=>A.var (nn + 7)).getD hi').ev m.env=((y0 + x1:Nat):Int):=by
  cases h' with
  | none =>
   simp at hhi; subst hhi
   refine ⟨c3,?_⟩
   show hi'.ev m.env=_
   simp only [A.ev] at hx1
   omega
  | some y=>exact ⟨⟨by show nn + 7 < σ.nv; omega,trivial⟩,by show m.env (nn + 7)=_; omega⟩
 have wlo2:m.env (nn + 6)=((y0 + x0:Nat):Int):=by omega
 refine ⟨subV r.k.sz (a.eval x) x0 x1,?_,q1,⟨by show nn + 6 < σ.nv; omega,trivial⟩,whi2.1,⟨by show 0 ≤ m.env (nn + 6); omega,by rw [whi2.2]; show m.env (nn + 6) ≤ _; omega,by rw [whi2.2,hlv]; omega,by rw [whi2.2]; omega⟩,?_,sub_one c6⟩
 ·rw [← hsz]
  simp only [execOp,ho,hv,Instr.sliceAt,Instr.slice,subV]
  simp [run_underlying hu,hsb,run_sizeOf hs]
 ·rw [whi2.2]
  show isView _ _ (m.env (nn + 6)).toNat _ _
  rw [wlo2,hsv]
  exact hview
theorem pure_slice {t:TypeId} {x:Operand} {lo hi mx:Option Operand} (h:Rep w0 m σ a w) (ho:o.op=.slice t x lo hi mx) (hp:plan P T σ nn nid o.op=.ok p) (hdf:DefsOk T m.env σ.nv nn p.defs) (hz:∀ x ∈ p.nz,x.ev m.env ≠ 0):PureOk P m σ a w o p.val:=by
 rw [ho] at hp
 simp only [plan] at hp
 split at hp
 ·cases hp
 ·rename_i hmx
  have hmx':mx=none:=by simpa using hmx
  subst hmx'
  split at hp
  ·rename_i n e id off hu hx
   have h1:=h.cell hx
   split at hp
   ·rename_i l hh s hl hh' hs
    obtain ⟨bl1,bl2⟩:=bounds_opt h hl
    obtain ⟨bh1,bh2⟩:=bounds_opt h hh'
    split at hp
    ·rename_i hb
     cases hp
     simp only [Bool.and_eq_true,decide_eq_true_eq] at hb
     have hsb:=run_sliceBounds (P:=P) (w:=w) (b:=false) (len:=n) (cap:=n) bl1 bl2 bh1 bh2 hb.1 hb.2
     refine ⟨.slice (some (m.at id (if n=l.getD 0 then off else off + l.getD 0 * s))) (hh.getD n - l.getD 0) (n - l.getD 0),?_,h1.1,rfl⟩
     simp only [execOp,ho,h1.2,Instr.sliceAt]
     simp [run_underlying hu,Instr.sureAddr,hsb,run_sizeOf hs,at_slice]
    ·cases hp
   ·split at hp
    ·rename_i y s hy hs _
     cases hp
     obtain ⟨bh1,bh2⟩:=bndA_ok h hy
     have d1:m.env nn=b2i (decide ((0:Int) ≤ y.ev m.env)):=(hdf.2 0 _ _ rfl).1
     have d2:m.env (nn + 1)=b2i (decide (y.ev m.env ≤ (n:Int))):=(hdf.2 1 _ _ rfl).1
     have z1:(0:Int) ≤ y.ev m.env:=bit_yes (by rw [← d1]; exact hz (.var nn) (by simp))
     have z2:y.ev m.env ≤ (n:Int):=bit_yes (by rw [← d2]; exact hz (.var (nn + 1)) (by simp))
     cases hi with
     | none=>cases bh2 rfl
     | some hx' =>
      obtain ⟨y',k,e1,e2,e3⟩:=bh1 _ rfl
      cases e1
      obtain ⟨x1,hx1⟩:=Int.eq_ofNat_of_zero_le z1
      have hsb:=run_sliceBounds (P:=P) (w:=w) (b:=false) (len:=n) (cap:=n) (lo:=none) (hi:=some (a.eval hx')) (l:=none) (h:=some x1) (fun v hv=>by cases hv) (fun _=>rfl)
       (fun v hv=>by cases hv; exact ⟨x1,k,rfl,by rw [e3,hx1]⟩) (fun e=>by cases e) (by simp; omega) (by simp)
      refine ⟨.slice (some (m.at id off)) x1 n,?_,h1.1,e2,⟨z1,z2⟩,by rw [hx1]; rfl⟩
      simp only [execOp,ho,h1.2,Instr.sliceAt]
      simp [run_underlying hu,Instr.sureAddr,hsb,run_sizeOf hs,at_add]
    ·cases hp
  ·rename_i e id off len cap hu hx
   have h1:=h.cell hx
   split at hp
   ·rename_i l hh s hl hh' hs
    obtain ⟨bl1,bl2⟩:=bounds_opt h hl
    obtain ⟨bh1,bh2⟩:=bounds_opt h hh'
    split at hp
    ·rename_i hb
     cases hp
     simp only [Bool.and_eq_true,decide_eq_true_eq] at hb
     have hsb:=run_sliceBounds (P:=P) (w:=w) (b:=true) (len:=len) (cap:=cap) bl1 bl2 bh1 bh2 hb.1 hb.2
     refine ⟨.slice (some (m.at id (if cap=l.getD 0 then off else off + l.getD 0 * s))) (hh.getD len - l.getD 0) (cap - l.getD 0),?_,h1.1,rfl⟩
     simp only [execOp,ho,h1.2,Instr.sliceAt,Instr.slice]
     simp [run_underlying hu,hsb,run_sizeOf hs]
     rw [← at_slice]
     split <;> rfl
    ·cases hp
   ·cases hp
  ·rename_i e id hu hx
   obtain ⟨c1,c2,c3⟩:=h.cell hx
   split at hp
   ·rename_i r l hh s hr hl hh' hs
    split at hp
    ·rename_i hsz
     have hsz:s=r.k.sz:=by simpa using hsz
     obtain ⟨q1,q2,q5,q6,q3⟩:=h.row_ok hr
     obtain ⟨b,cap,hsv⟩:=q3.len
     refine part_pure (d:=.var nn) h ho hu hr hs hsz hl hh' (fun _=>?_) (c2.trans hsv) hsv hp hdf hz
     have e0:p.defs[0]?=some (.int .i64,.llen r.x0):=by unfold partP at hp; cases hp; rfl
     refine ⟨⟨?_,trivial⟩,?_⟩
     ·have:=hdf.1
      have hlp:=(List.getElem?_eq_some_iff.1 e0).1
      show nn < σ.nv
      omega
     ·have:=(hdf.2 0 _ _ e0).1
      rw [Nat.add_zero] at this
      show m.env nn=_
      rw [this]; simp only [D.ev,q6]
    ·cases hp
   ·cases hp
  ·rename_i e id lo' hi' k hu hx
   obtain ⟨b1,b2,b3,b4,b5,b6⟩:=h.cell hx
   split at hp
   ·rename_i r l hh s hr hl hh' hs
    split at hp
    ·rename_i hc
     simp only [Bool.and_eq_true,beq_iff_eq] at hc
     obtain ⟨⟨hc1,hc2⟩,hc3⟩:=hc
     have hk:=LKeq_ok hc2
     subst hk
     have hz0:=isZ_ok hc3
     subst hz0
     obtain ⟨q1,q2,q5,q6,q3⟩:=h.row_ok hr
     obtain ⟨b,cap,hsv⟩:=q3.len
     refine part_pure (d:=hi') (n:=(hi'.ev m.env).toNat) h ho hu hr hs hc1 hl hh' (fun _=>⟨b3,?_⟩) (by rw [isView.zero b5,hsv]; exact subV_zero ..) hsv hp hdf hz
     have:=b4.2.1
     simp only [A.ev] at this
     omega
    ·split at hp
     ·rename_i hc
      simp only [Bool.and_eq_true,beq_iff_eq] at hc
      obtain ⟨hc1,hc2⟩:=hc
      have hk:=LKeq_ok hc2
      subst hk
      exact view_pure h ho hu hr hs hc1 hl hh' ⟨b1,b2,b3,b4,b5,b6⟩ hp hdf hz
     ·cases hp
   ·cases hp
  ·cases hp
theorem pure_build {t:TypeId} {ps:Array (Nat × Operand)} (h:Rep w0 m σ a w) (ho:o.op=.build t ps) (hp:plan P T σ nn nid o.op=.ok p):PureOk P m σ a w o p.val:=by
 rw [ho] at hp
 simp only [plan] at hp
 have fin:∀ {cs:Array Value},P.built t (ps.map fun (i,x)=>(i,a.eval x)).toList=some cs → (execOp a.eval o).run P w=.ok (.value (.agg cs)) w:=by
  intro cs hc
  simp only [execOp,ho]
  simp [run_build w t _ cs hc]
 split at hp
 ·rename_i i fs l hi hu hl
  split at hp
  ·rename_i z places hz hpl
   split at hp
   ·rename_i zv hzv
    split at hp
    ·rename_i cs hcs
     split at hp
     ·rename_i hsol
      cases hp
      obtain ⟨zs,hz1,hz2,_⟩:=V.rel_cells (m:=m) (nv:=σ.nv) (al:=σ.al) (vOf_rel hzv).1 (vOf_rel (m:=m) (nv:=σ.nv) (al:=σ.al) hzv).2
      obtain ⟨vs,hv1,hv2⟩:=fill_ok (m:=m) _ l hsol (parts_ok h _ _ hl hsol) _ _ _ hz2 hcs
      refine ⟨.agg vs.toArray,fin ?_,vs,rfl,hv2⟩
      have e:(fun j:Nat=>places[j]?)=fun j:Nat=>places.toArray[j]?:=by funext j; simp
      rw [e] at hv1
      simp only [Program.built,hi,hu,hz,hpl,hz1]
      simpa using hv1
     ·cases hp
    ·cases hp
   ·cases hp
  ·cases hp
 ·rename_i i n e l hi hu hl
  split at hp
  ·rename_i z s hz hs
   split at hp
   ·rename_i zv hzv
    split at hp
    ·rename_i cs hcs
     split at hp
     ·rename_i hsol
      cases hp
      obtain ⟨zs,hz1,hz2,_⟩:=V.rel_cells (m:=m) (nv:=σ.nv) (al:=σ.al) (vOf_rel hzv).1 (vOf_rel (m:=m) (nv:=σ.nv) (al:=σ.al) hzv).2
      obtain ⟨vs,hv1,hv2⟩:=fill_ok (m:=m) _ l hsol (parts_ok h _ _ hl hsol) _ _ _ hz2 hcs
      refine ⟨.agg vs.toArray,fin ?_,vs,rfl,hv2⟩
      unfold szOf at hs
      cases he:P.info? e with
      | none=>simp [he] at hs
      | some ie =>
       simp [he] at hs
       subst hs
       simp only [Program.built,hi,hu,hz,he,hz1]
       simpa using hv1
     ·cases hp
    ·cases hp
   ·cases hp
  ·cases hp
 ·cases hp
theorem args_ok (h:Rep w0 m σ a w):∀ (xs:List Operand) (l:List V),mapO σ.v xs=some l → VRels m σ.nv σ.al l (xs.map a.eval):=by
 intro xs
 induction xs with
 | nil=>intro l hl; simp [mapO] at hl; subst hl; trivial
 | cons x xs ih =>
  intro l hl
  unfold mapO at hl
  split at hl
  ·cases hl
  ·rename_i y hy
   split at hl
   ·cases hl
   ·rename_i ys hys
    cases hl
    exact ⟨h.v_ hy,ih ys hys⟩
def NewOk (P:Program) (m:M) (σ:St) (a:Act) (w:World) (o:Oper) (e:TypeId) (cs:List C) (f:Addr → Value):Prop :=
 ∃ vs:List Value,(execOp a.eval o).run P w=.ok (.value (f ⟨w.heap.size,0,none⟩)) (w.alloc (.cells vs.toArray e)) ∧ Rels m σ.nv σ.al cs vs
theorem new_alloc {e:TypeId} (ho:o.op=.alloc e) (hp:plan P T σ nn nid o.op=.ok p) :
  ∃ cs,p={val:=.vl (.one (.ptr nid 0)),eff:=.new {cells:=cs,elem:=e,own:=true } } ∧ NewOk P m σ a w o e cs (fun ad=>.pointer (some ad)):=by
 rw [ho] at hp
 simp only [plan] at hp
 split at hp
 ·rename_i i hi
  split at hp
  ·rename_i z hz
   split at hp
   ·rename_i v hv
    cases hp
    obtain ⟨vs,h1,h2,_⟩:=V.rel_cells (m:=m) (nv:=σ.nv) (al:=σ.al) (vOf_rel hv).1 (vOf_rel (m:=m) (nv:=σ.nv) (al:=σ.al) hv).2
    refine ⟨_,rfl,vs,?_,h2⟩
    simp only [execOp,ho,Instr.alloc]
    simp [run_zeroValue hi hz,newVar,newRow,h1]
   ·cases hp
  ·cases hp
 ·cases hp
theorem new_box {e:TypeId} {x:Operand} (h:Rep w0 m σ a w) (ho:o.op=.box e x) (hp:plan P T σ nn nid o.op=.ok p) :
  ∃ cs,p={val:=.vl (.one (.ptr nid 0)),eff:=.new {cells:=cs,elem:=e,own:=true } } ∧ NewOk P m σ a w o e cs (fun ad=>.pointer (some ad)):=by
 rw [ho] at hp
 simp only [plan] at hp
 split at hp
 ·rename_i v hv
  split at hp
  ·rename_i hs
   cases hp
   obtain ⟨vs,h1,h2,_⟩:=V.rel_cells (h.v_ hv) hs
   refine ⟨_,rfl,vs,?_,h2⟩
   simp only [execOp,ho,Instr.box]
   simp [newVar,newRow,h1]
  ·cases hp
 ·cases hp
theorem range_mod (zs:List Value):∀ n:Nat,(List.range (n * zs.length)).map (fun i=>zs.getD (i % zs.length) default)=(List.replicate n zs).flatten:=by
 intro n
 induction n with
 | zero=>simp
 | succ n ih =>
  rw [Nat.add_mul,Nat.one_mul,List.range_add,List.map_append,ih,List.replicate_succ',List.flatten_append]
  congr 1
  simp only [List.flatten_cons,List.flatten_nil,List.append_nil,List.map_map]
  apply List.ext_getElem?
  intro j
  simp only [List.getElem?_map]
  by_cases hj:j < zs.length
  ·simp [hj,Nat.mod_eq_of_lt hj]
  ·simp [hj]
theorem rels_flatten {nv:Nat} {al:Nat → Bool} {cs:List C} {vs:List Value} (h:Rels m nv al cs vs):∀ n,Rels m nv al (List.replicate n cs).flatten (List.replicate n vs).flatten:=by
 intro n
 induction n with
 | zero=>simp [Rels]
 | succ n ih=>rw [List.replicate_succ,List.replicate_succ,List.flatten_cons,List.flatten_cons]; exact h.append ih
theorem new_buildSlice {t:TypeId} {len:Nat} {ps:Array (Nat × Operand)} (h:Rep w0 m σ a w) (ho:o.op=.buildSlice t len ps) (he:emptyP P nid t len ps=none) (hp:plan P T σ nn nid o.op=.ok p) :
  ∃ cs e,p={val:=.vl (.one (.slice nid 0 len len)),eff:=.new {cells:=cs,elem:=e,own:=true } } ∧ NewOk P m σ a w o e cs (fun ad=>.slice (some ad) len len):=by
 rw [ho] at hp
 simp only [plan,he] at hp
 split at hp
 ·rename_i e l hu hl
  split at hp
  ·rename_i i hi
   split at hp
   ·rename_i z hz
    split at hp
    ·rename_i zv hzv
     split at hp
     ·rename_i hc
      simp only [Bool.and_eq_true,decide_eq_true_eq,beq_iff_eq] at hc
      obtain ⟨⟨hc1,hc2⟩,hc3⟩:=hc
      split at hp
      ·rename_i cs hcs
       split at hp
       ·rename_i hsol
        cases hp
        obtain ⟨zs,hz1,hz2,_⟩:=V.rel_cells (m:=m) (nv:=σ.nv) (al:=σ.al) (vOf_rel hzv).1 (vOf_rel (m:=m) (nv:=σ.nv) (al:=σ.al) hzv).2
        have hzl:zs.length=i.size:=by rw [← Rels.length hz2]; exact hc1
        obtain ⟨vs,hv1,hv2⟩:=fill_ok (m:=m) _ l hsol (parts_ok h _ _ hl hsol) _ _ _ (rels_flatten hz2 len) hcs
        refine ⟨_,_,rfl,vs,?_,hv2⟩
        have hsz:szOf P e=some i.size:=by simp [szOf,hi]
        have hrow:(Array.map (fun x=>zs[x % zs.length]?.getD default) (Array.range (len * i.size)))=((List.replicate len zs).flatten).toArray:=by
         apply Array.ext'
         rw [← hzl,← range_mod zs len]
         simp
        have hv1':Instr.fill (fun j=>some (j * i.size,i.size)) ((List.replicate len zs).flatten).toArray (List.map (fun x=>(x.fst,a.eval x.snd)) ps.toList)=some vs.toArray:=hv1
        simp only [execOp,ho,Instr.buildSlice]
        have hne:len * i.size=0 ∨ ¬ len * i.size=0:=Decidable.em _
        simp only [Sem.run_bind,run_underlying hu,Result.andThen_ok,run_sizeOf hsz]
        rw [if_neg (by omega)]
        rcases hne with h0 | h0
        ·have:len=0:=by rcases Nat.mul_eq_zero.1 h0 with h | h <;> omega
         subst this
         have he:Array.map (fun (_:Nat)=>(default:Value)) (Array.range 0)=#[]:=Array.ext' (by simp)
         simp at hv1'
         simp [he,hv1',newRow]
        ·simp [h0,run_zeroValue hi hz,hz1]
         rw [hrow]
         simp [hv1',newRow]
       ·cases hp
      ·cases hp
     ·cases hp
    ·cases hp
   ·cases hp
  ·cases hp
 ·cases hp
theorem putDs_get (k:IntKind) (i x:A):∀ (as:List A) (j0 j:Nat),(putDs k i x as j0)[j]?=as[j]?.map fun y=>(.int k,.put i (j0 + j) x y)
 | [],j0,j=>by simp [putDs]
 | y :: as,j0,j=>by
  cases j with
  | zero=>simp [putDs]
  | succ j=>simp only [putDs,List.getElem?_cons_succ,putDs_get k i x as (j0 + 1) j]; congr 1; funext z; rw [show j0 + 1 + j=j0 + (j + 1) by omega]
theorem putDs_len (k:IntKind) (i x:A):∀ (as:List A) (j0:Nat),(putDs k i x as j0).length=as.length
 | [],_=>rfl
 | _ :: as,j0=>by simp [putDs,putDs_len k i x as (j0 + 1)]
theorem putCs_get (k:IntKind):∀ (n nn j:Nat) (c:C),(putCs k nn n)[j]?=some c → j < n ∧ c=.int k (.var (nn + j))
 | 0,nn,j,c,h=>by simp [putCs] at h
 | n + 1,nn,j,c,h=>by
  cases j with
  | zero=>simp [putCs] at h; exact ⟨by omega,by rw [← h]; rfl⟩
  | succ j =>
   obtain ⟨h1,h2⟩:=putCs_get k n (nn + 1) j c (by simpa [putCs] using h)
   exact ⟨by omega,by rw [h2,show nn + 1 + j=nn + (j + 1) by omega]⟩
theorem putCs_len (k:IntKind):∀ (n nn:Nat),(putCs k nn n).length=n
 | 0,_=>rfl
 | n + 1,nn=>by simp [putCs,putCs_len k n (nn + 1)]
theorem set_row {us:List Value} {off n i:Nat} {v:Value} (hi:i < n) (hl:off + n ≤ us.length) :
  us.take (off + i) ++ [v] ++ us.drop (off + i + 1)=us.take off ++ ((us.drop off).take n).set i v ++ us.drop (off + (((us.drop off).take n).set i v).length):=by
 have hn:(((us.drop off).take n).set i v).length=n:=by simp; omega
 rw [hn]
 apply List.ext_getElem?
 intro j
 simp only [List.append_assoc,List.getElem?_append,List.length_take,List.getElem?_take,List.getElem?_drop,List.length_set,List.getElem?_set,List.length_drop,List.length_singleton]
 have e1:min (off + i) us.length=off + i:=by omega
 have e2:min off us.length=off:=by omega
 have e3:min n (us.length - off)=n:=by omega
 rw [e1,e2,e3]
 by_cases h1:j < off
 ·simp [h1,show j < off + i by omega]
 ·by_cases h2:j < off + i
  ·simp only [h1,h2,if_true,if_false,show j - off < n by omega,show ¬ i=j - off by omega]
   congr 1; omega
  ·by_cases h3:j=off + i
   ·subst h3
    simp [show i < n by omega,show ¬ off + i < off by omega]
   ·have h4:¬ j - (off + i) < 1:=by omega
    simp only [h1,h2,h4,if_false]
    by_cases h5:j - off < n
    ·simp only [h5,if_true,show ¬ i=j - off by omega,if_false]; congr 1; omega
    ·simp only [h5,if_false]; congr 1; omega
end
def D.ok (n:Nat):D → Prop
 | .bin _ _ a b=>a.ok n ∧ b.ok n
 | .cmp _ a b=>a.ok n ∧ b.ok n
 | .conv _ a=>a.ok n
 | .not a=>a.ok n
 | .app _ _ as=>∀ a ∈ as,a.ok n
 | .join as=>∀ a ∈ as,a.ok n
 | .eqs l=>∀ p ∈ l,p.1.ok n ∧ p.2.ok n
 | .sel i as=>i.ok n ∧ ∀ a ∈ as,a.ok n
 | .put i _ x y=>i.ok n ∧ x.ok n ∧ y.ok n
 | .llen x=>x.ok n
 | .lget x i=>x.ok n ∧ i.ok n
 | .lapp x as=>x.ok n ∧ ∀ a ∈ as,a.ok n
 | .lsub x lo hi=>x.ok n ∧ lo.ok n ∧ hi.ok n
 | .lput x i y=>x.ok n ∧ i.ok n ∧ y.ok n
 | .lrep c y=>c.ok n ∧ y.ok n
 | .lcpy x y=>x.ok n ∧ y.ok n
 | .lcat x y=>x.ok n ∧ y.ok n
 | .lsame x y=>x.ok n ∧ y.ok n
theorem map_ev_congr {as:List A} {n:Nat} {e e':Nat → Int} (h:∀ a ∈ as,a.ok n) (he:∀ i,i < n → e' i=e i):as.map (·.ev e')=as.map (·.ev e) :=
 List.map_congr_left fun a ha=>A.ev_congr (h a ha) he
theorem D.ev_congr {T:List K} {d:D} {n:Nat} {e e':Nat → Int} (h:d.ok n) (he:∀ i,i < n → e' i=e i):d.ev T e'=d.ev T e:=by
 cases d with
 | bin op k a b=>simp only [D.ev,A.ev_congr h.1 he,A.ev_congr h.2 he]
 | cmp op a b=>simp only [D.ev,A.ev_congr h.1 he,A.ev_congr h.2 he]
 | conv k a=>simp only [D.ev,A.ev_congr h he]
 | not a=>simp only [D.ev,A.ev_congr h he]
 | app g j as=>simp only [D.ev,map_ev_congr h he]
 | join as=>simp only [D.ev,map_ev_congr h he]
 | sel i as=>simp only [D.ev,A.ev_congr h.1 he,map_ev_congr h.2 he]
 | put i j x y=>simp only [D.ev,A.ev_congr h.1 he,A.ev_congr h.2.1 he,A.ev_congr h.2.2 he]
 | llen x=>simp only [D.ev,A.ev_congr h he]
 | lget x i=>simp only [D.ev,A.ev_congr h.1 he,A.ev_congr h.2 he]
 | lapp x as=>simp only [D.ev,A.ev_congr h.1 he,map_ev_congr h.2 he]
 | lsub x lo hi=>simp only [D.ev,A.ev_congr h.1 he,A.ev_congr h.2.1 he,A.ev_congr h.2.2 he]
 | lput x i y=>simp only [D.ev,A.ev_congr h.1 he,A.ev_congr h.2.1 he,A.ev_congr h.2.2 he]
 | lrep c y=>simp only [D.ev,A.ev_congr h.1 he,A.ev_congr h.2 he]
 | lcpy x y=>simp only [D.ev,A.ev_congr h.1 he,A.ev_congr h.2 he]
 | lcat x y=>simp only [D.ev,A.ev_congr h.1 he,A.ev_congr h.2 he]
 | lsame x y=>simp only [D.ev,A.ev_congr h.1 he,A.ev_congr h.2 he]
 | eqs l =>
  simp only [D.ev]
  congr 1
  induction l with
  | nil=>rfl
  | cons p l ih =>
   have hp:=h p (List.mem_cons_self ..)
   simp only [List.all_cons,A.ev_congr hp.1 he,A.ev_congr hp.2 he]
   rw [ih fun q hq=>h q (List.mem_cons_of_mem _ hq)]
def GenOk (T:List K):(Nat → Int) → Nat → Defs → Prop
 | _,_,[]=>True
 | e,nn,(kk,d) :: ds=>d.ok nn ∧ kk.has (d.ev T e) ∧ GenOk T (upd e nn (d.ev T e)) (nn + 1) ds
def Told (T:List K) (e':Nat → Int) (nn:Nat) (ds:Defs):Prop :=
 ∀ (i:Nat) kk d,ds[i]?=some (kk,d) → e' (nn + i)=d.ev T e' ∧ kk.has (e' (nn + i))
section
variable {T:List K}
theorem letts_holds {goal:Gl} {t:Tree}:∀ (ds:Defs) (e:Nat → Int) (nn:Nat),(letts nn ds t).holds T goal e → GenOk T e nn ds →
  ∃ e',(∀ i,i < nn → e' i=e i) ∧ (∀ i,nn + ds.length ≤ i → e' i=e i) ∧ Told T e' nn ds ∧ t.holds T goal e':=by
 intro ds
 induction ds with
 | nil=>intro e nn h _; exact ⟨e,fun _ _=>rfl,fun _ _=>rfl,fun i kk d h=>by simp at h,h⟩
 | cons x ds ih =>
  intro e nn h hg
  obtain ⟨kk,d⟩:=x
  obtain ⟨h1,h2,h3⟩:=hg
  have h4:=h _ rfl h2
  obtain ⟨e',g1,g2,g3,g4⟩:=ih _ _ h4 h3
  have hlow:∀ i,i < nn → e' i=e i:=fun i hi=>by rw [g1 i (by omega)]; simp [upd]; omega
  have hev:d.ev T e'=d.ev T e:=D.ev_congr h1 hlow
  have hnn:e' nn=d.ev T e:=by rw [g1 nn (by omega)]; simp [upd]
  refine ⟨e',hlow,fun i hi=>?_,fun i kk' d' hi=>?_,g4⟩
  ·simp only [List.length_cons] at hi
   rw [g2 i (by omega)]; simp [upd]; omega
  ·cases i with
   | zero=>simp at hi; obtain ⟨rfl,rfl⟩:=hi; simp only [Nat.add_zero]; rw [hnn,hev]; exact ⟨rfl,h2⟩
   | succ i=>have:=g3 i kk' d' (by simpa using hi); rwa [show nn + 1 + i=nn + (i + 1) by omega] at this
theorem Told.append {e':Nat → Int} {nn:Nat} {ds ds':Defs}:Told T e' nn (ds ++ ds') ↔ Told T e' nn ds ∧ Told T e' (nn + ds.length) ds':=by
 constructor
 ·intro h
  refine ⟨fun i kk d hi=>h i kk d ?_,fun i kk d hi=>?_⟩
  ·have hl:=(List.getElem?_eq_some_iff.1 hi).1
   rw [List.getElem?_append_left hl]; exact hi
  ·have:=h (ds.length + i) kk d (by rw [List.getElem?_append_right (by omega)]; simpa using hi)
   rwa [← Nat.add_assoc] at this
 ·rintro ⟨h1,h2⟩ i kk d hi
  by_cases hl:i < ds.length
  ·rw [List.getElem?_append_left hl] at hi; exact h1 i kk d hi
  ·rw [List.getElem?_append_right (by omega)] at hi
   have:=h2 _ kk d hi
   rwa [show nn + ds.length + (i - ds.length)=nn + i by omega] at this
theorem gen_append:∀ (ds:Defs) (e:Nat → Int) (nn:Nat) (ds':Defs),GenOk T e nn ds → (∀ e',(∀ i,i < nn → e' i=e i) → Told T e' nn ds → GenOk T e' (nn + ds.length) ds') → GenOk T e nn (ds ++ ds'):=by
 intro ds
 induction ds with
 | nil=>intro e nn ds' _ h; exact h e (fun _ _=>rfl) (fun i kk d h=>by simp at h)
 | cons x ds ih =>
  intro e nn ds' hg h
  obtain ⟨kk,d⟩:=x
  obtain ⟨h1,h2,h3⟩:=hg
  refine ⟨h1,h2,ih _ _ _ h3 fun e' he ht=>?_⟩
  have hlow:∀ i,i < nn → e' i=e i:=fun i hi=>by rw [he i (by omega)]; simp [upd]; omega
  have hev:d.ev T e'=d.ev T e:=D.ev_congr h1 hlow
  have hnn:e' nn=d.ev T e:=by rw [he nn (by omega)]; simp [upd]
  have:=h e' hlow fun i kk' d' hi=>by
   cases i with
   | zero=>simp at hi; obtain ⟨rfl,rfl⟩:=hi; simp only [Nat.add_zero]; rw [hnn,hev]; exact ⟨rfl,h2⟩
   | succ i=>have:=ht i kk' d' (by simpa using hi); rwa [show nn + 1 + i=nn + (i + 1) by omega] at this
  simpa [Nat.add_assoc,Nat.add_comm 1] using this
theorem mk_gen {e:Nat → Int} {nn:Nat} {kk:KK} {d:D} (h1:d.ok nn) (h2:kk.has (d.ev T e)):GenOk T e nn (mk nn kk d).1:=by
 unfold mk
 split
 ·trivial
 ·exact ⟨h1,h2,trivial⟩
end
theorem limb_step (x r:Int) (h0:0 ≤ x) (h1:x < 18446744073709551616) (j:Nat) :
  (x + 18446744073709551616 * r) / p64 (j + 1)=r / p64 j:=by
 have e:p64 (j + 1)=18446744073709551616 * p64 j:=by
  unfold p64; rw [Nat.mul_add,Nat.pow_add,Nat.mul_comm]; simp
 rw [e,← Int.ediv_ediv_of_nonneg (by omega)]
 congr 1
 omega
theorem limb_zero (x r:Int) (h0:0 ≤ x) (h1:x < 18446744073709551616):(x + 18446744073709551616 * r) / p64 0 % 18446744073709551616=x:=by
 have e:p64 0=1:=rfl
 rw [e,Int.ediv_one]
 omega
theorem limbs_join {a b c d e f:Int} (ha:0 ≤ a ∧ a < 18446744073709551616) (hb:0 ≤ b ∧ b < 18446744073709551616) (hc:0 ≤ c ∧ c < 18446744073709551616)
  (hd:0 ≤ d ∧ d < 18446744073709551616) (he:0 ≤ e ∧ e < 18446744073709551616) (hf:0 ≤ f ∧ f < 18446744073709551616) :
  limbs (joinE [a,b,c,d,e,f])=[.int .u64 a,.int .u64 b,.int .u64 c,.int .u64 d,.int .u64 e,.int .u64 f] ∧ 0 ≤ joinE [a,b,c,d,e,f] ∧ joinE [a,b,c,d,e,f] < N384:=by
 refine ⟨?_,?_⟩
 ·have hr:List.range 6=[0,1,2,3,4,5]:=rfl
  simp only [limbs,hr,List.map_cons,List.map_nil,joinE]
  rw [limb_zero a _ ha.1 ha.2,limb_step a _ ha.1 ha.2 0,limb_zero b _ hb.1 hb.2,limb_step a _ ha.1 ha.2 1,limb_step b _ hb.1 hb.2 0,limb_zero c _ hc.1 hc.2,
   limb_step a _ ha.1 ha.2 2,limb_step b _ hb.1 hb.2 1,limb_step c _ hc.1 hc.2 0,limb_zero d _ hd.1 hd.2,
   limb_step a _ ha.1 ha.2 3,limb_step b _ hb.1 hb.2 2,limb_step c _ hc.1 hc.2 1,limb_step d _ hd.1 hd.2 0,limb_zero e _ he.1 he.2,
   limb_step a _ ha.1 ha.2 4,limb_step b _ hb.1 hb.2 3,limb_step c _ hc.1 hc.2 2,limb_step d _ hd.1 hd.2 1,limb_step e _ he.1 he.2 0,limb_zero f _ hf.1 hf.2]
 ·simp only [joinE,N384]
  omega
end Go.Sx
