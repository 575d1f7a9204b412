/- The engine Sx, part X: results, calls walked into, what a branch tells. -/
import Derived.Test.YtcnllpepiglffaaGc
namespace Go.Sx
open Go Go.RowKit

section
variable {P : Program} {T : List K} {w0 : World} {m : M} {σ : St} {a : Act} {w : World}
theorem Rep.know (h : Rep w0 m σ a w) {v : Nat} {b : Bool} (hv : v < σ.nv) (hb : decide (m.env v ≠ 0) = b) : Rep w0 m (σ.know v b) a w :=
  ⟨h.defers, h.size, h.tmp, h.below, h.own, h.ro, h.inj, fun p hp => by
    rcases List.mem_cons.1 hp with rfl | hp
    · exact ⟨hv, hb⟩
    · exact h.kn p hp, h.gl, h.rows, h.rbox, h.rsep⟩
theorem truth_need {x : A} {n : Nat} (h : truth σ x = .need n) : x = .var n := by
  cases x with
  | lit k => simp only [truth] at h; split at h <;> cases h
  | var k => simp only [truth] at h; split at h <;> cases h; rfl
  | limb a b => cases h
theorem resOne_ok (h : Rep w0 m σ a w) {r : ResultVar} {v : V} (hr : resOne P σ r = some v) : ∃ u, ((match r with | .tmp t => pure (a.tmps.getD t undef) | .cell ad t => do loadVar t (← asAddr (a.tmps.getD ad undef))) : Sem Value).run P w = .ok u w ∧ v.rel m σ.nv σ.al u := by
  cases r with
  | tmp t =>
    simp only [resOne] at hr
    have := h.get t
    split at hr
    · rename_i v' hv
      cases hr
      rw [hv] at this
      exact ⟨_, rfl, this⟩
    · cases hr
  | cell t ty =>
    simp only [resOne] at hr
    have := h.get t
    split at hr
    · rename_i id off hv
      rw [hv] at this
      obtain ⟨h1, h2⟩ : C.rel m σ.nv σ.al (.ptr id off) _ := this
      split at hr
      · rename_i b d n hb hd hn
        split at hr
        · rename_i ha
          split at hr
          · cases hr
          · rename_i hl
            cases hr
            obtain ⟨vs, hvl, hr, hv⟩ := h.reads hb off n (by omega)
            refine ⟨.agg vs.toArray, ?_, vs, rfl, hr⟩
            simp only [h2]
            simp [asAddr, run_loadVar_agg hd ha (by rw [hn, hvl]) hv]
        · rename_i ha
          split at hr
          · rename_i c hc
            cases hr
            obtain ⟨v, hv, hr⟩ := h.read hb _ _ hc
            refine ⟨v, ?_, hr⟩
            simp only [h2]
            simp [asAddr, run_loadVar_one hd (by simpa using ha) hv]
          · cases hr
      · cases hr
    · cases hr
theorem res_list (h : Rep w0 m σ a w) : ∀ (l : List ResultVar) (vs : List V), mapO (resOne P σ) l = some vs → ∃ us : List Value,
    ((l.mapM fun (r : ResultVar) => ((match r with | .tmp t => pure (a.tmps.getD t undef) | .cell ad t => do loadVar t (← asAddr (a.tmps.getD ad undef))) : Sem Value)) : Sem (List Value)).run P w = .ok us w ∧ VRels m σ.nv σ.al vs us := by
  intro l
  induction l with
  | nil => intro vs hvs; simp [mapO] at hvs; subst hvs; exact ⟨[], rfl, trivial⟩
  | cons r l ih =>
    intro vs hvs
    unfold mapO at hvs
    split at hvs
    · cases hvs
    · rename_i y hy
      split at hvs
      · cases hvs
      · rename_i ys hys
        cases hvs
        obtain ⟨u, h1, h2⟩ := resOne_ok h hy
        obtain ⟨us, h3, h4⟩ := ih ys hys
        refine ⟨u :: us, ?_, h2, h4⟩
        rw [List.mapM_cons]
        simp only [Sem.run_bind, h1, Result.andThen_ok, h3, Sem.run_pure]
theorem res_ok (h : Rep w0 m σ a w) {fn : Func} {vs : List V} (hr : resS P σ fn = some vs) : ∃ us : List Value, (results fn a.tmps).run P w = .ok (retV us) w ∧ VRels m σ.nv σ.al vs us := by
  obtain ⟨us, h1, h2⟩ := res_list h _ _ hr
  refine ⟨us, ?_, h2⟩
  unfold results
  rw [Array.mapM_eq_mapM_toList]
  rw [bind_map_left, Sem.run_bind]
  refine (congrArg (fun r => Result.andThen r _) h1).trans ?_
  rw [Result.andThen_ok, Sem.run_pure]
  cases us with
  | nil => rfl
  | cons u us => cases us with
    | nil => rfl
    | cons u' us => simp [retV]
/-- the frame of a call that is walked into -/
theorem enter_rep (h : Rep w0 m σ a w) {args : List V} {us : List Value} (hr : VRels m σ.nv σ.al args us) (n : Nat) :
    Rep w0 m { σ with tmps := args.map SV.vl ++ List.replicate (n - args.length) undefS } { tmps := us.toArray ++ Array.replicate (n - us.toArray.size) undef, defers := [] } w := by
  have hl := hr.length
  refine ⟨rfl, by simp [hl], fun i s hi => ?_, h.below, h.own, h.ro, h.inj, h.kn, h.gl, h.rows, h.rbox, h.rsep⟩
  have hi : (args.map SV.vl ++ List.replicate (n - args.length) undefS)[i]? = some s := hi
  show ∃ v, (us.toArray ++ Array.replicate (n - us.toArray.size) undef)[i]? = some v ∧ s.rel m σ.nv σ.al v
  by_cases hlt : i < args.length
  · rw [List.getElem?_append_left (by simpa using hlt), List.getElem?_map] at hi
    cases hai : args[i]? with
    | none => rw [hai] at hi; cases hi
    | some v =>
      rw [hai] at hi
      cases hi
      obtain ⟨u, hu, hv⟩ := hr.get i v hai
      exact ⟨u, by rw [Array.getElem?_append_left (by simp; omega)]; simpa using hu, hv⟩
  · rw [List.getElem?_append_right (by simp; omega), List.getElem?_replicate] at hi
    split at hi
    · rename_i hlt2
      cases hi
      refine ⟨undef, ?_, [], rfl, trivial⟩
      rw [Array.getElem?_append_right (by simp; omega), Array.getElem?_replicate, if_pos]
      simp only [List.size_toArray]
      simp only [List.length_map] at hlt2
      rw [← hl]; exact hlt2
    · cases hi
theorem Rep.back {σ' : St} {m' : M} {a' : Act} {w' : World} (h : Rep w0 m σ a w) (h' : Rep w0 m' σ' a' w') (hx : MExt m σ.nv σ.al m' σ'.nv σ'.al) : Rep w0 m' { σ' with tmps := σ.tmps } a w' :=
  ⟨h.defers, h.size, fun i s hi => by obtain ⟨v, hv, hs⟩ := h.tmp i s hi; exact ⟨v, hv, SV.rel_mono hx hs⟩, h'.below, h'.own, h'.ro, h'.inj, h'.kn, h'.gl, h'.rows, h'.rbox, h'.rsep⟩
/-- what a call is that the engine walks into -/
theorem plan_call {o : Oper} {nn nid f : Nat} {args : List V} (h : Rep w0 m σ a w) (hp : plan P T σ nn nid o.op = .call f args) :
    ∃ us : List Value, VRels m σ.nv σ.al args us ∧ (execOp a.eval o).run P w = (callFunc f us.toArray).run P w := by
  cases ho : o.op with
  | call c =>
    rw [ho] at hp
    simp only [plan] at hp
    split at hp
    · cases hp
    · rename_i args' hargs
      have hvr := args_ok h _ _ hargs
      split at hp
      · repeat' split at hp
        all_goals (first | (cases hp; done) | (unfold okP at hp; cases hp; done))
      · cases hp
      · cases hp
      · rename_i x hcal
        split at hp
        · rename_i f' caps hx
          have hfx := h.cell hx
          split at hp
          · repeat' split at hp
            all_goals (cases hp; done)
          · simp only [Pl.call.injEq] at hp
            obtain ⟨rfl, rfl⟩ := hp
            refine ⟨c.args.toList.map a.eval ++ caps.map fun p => Value.pointer (some (m.at p.1 p.2)), ?_, ?_⟩
            · refine hvr.append ?_
              have hc := hfx.1
              clear hfx hx
              induction caps with
              | nil => trivial
              | cons q caps ih => exact ⟨⟨hc q (List.mem_cons_self ..), rfl⟩, ih fun z hz => hc z (List.mem_cons_of_mem _ hz)⟩
            · rw [run_callValue ho hcal hfx.2]
              congr 2
              apply Array.ext'
              simp
        · cases hp
  | binOp op t x y yt =>
    rw [ho] at hp
    simp only [plan] at hp
    split at hp
    · unfold planBin at hp
      split at hp
      · simp only [binInt, mkP] at hp
        repeat' split at hp
        all_goals (cases hp; done)
      all_goals
        try simp only [mkP, okP] at hp
        repeat' split at hp
        all_goals (cases hp; done)
    · cases hp
  | _ =>
    rw [ho] at hp
    simp only [plan, okP, partC, mkP, loadRow] at hp
    repeat' split at hp
    all_goals (cases hp; done)
theorem run_callFunc {f : FuncId} {fn : Func} {args : Array Value} (hf : P.funcs[f]? = some fn) (hn : (fn.name == "runtime.NumGoroutine") = false) {c : Code} (hb : fn.body = some c) : (callFunc f args).run P w = .ok (.enter f args) w := by
  have hn' : ¬fn.name = "runtime.NumGoroutine" := by simpa using hn
  simp [callFunc, hf, hn', hb]
end
end Go.Sx

/- The engine Sx, part Y: a loop with an invariant. -/
namespace Go.Sx
open Go Go.RowKit

/-! ### equality tests -/
theorem aEq_ok {a b : A} (h : aEq a b = true) : a = b := by
  cases a <;> cases b <;> simp [aEq] at h
  · rw [h]
  · rw [h]
  · rw [h.1, h.2]
theorem cEqb_ok {a b : C} (h : cEqb a b = true) : a = b := by
  cases a <;> cases b <;> simp only [cEqb, Bool.and_eq_true, beq_iff_eq, Bool.false_eq_true] at h <;> first | rfl | skip
  · obtain ⟨h1, h2⟩ := h
    first | rw [kind_ok h1, aEq_ok h2] | rw [h1, aEq_ok h2]
  · rw [aEq_ok h]
  · rw [h.1, h.2]
  · rw [h.1.1.1, h.1.1.2, h.1.2, h.2]
  · rw [h.1, h.2]
  · rw [h]
  · rw [h]
theorem csEqb_ok : ∀ {a b : List C}, csEqb a b = true → a = b
  | [], [], _ => rfl
  | a :: as, b :: bs, h => by
    simp only [csEqb, Bool.and_eq_true] at h
    rw [cEqb_ok h.1, csEqb_ok h.2]
theorem vEqb_ok {a b : V} (h : vEqb a b = true) : a = b := by
  cases a <;> cases b <;> simp only [vEqb, Bool.false_eq_true] at h
  · rw [cEqb_ok h]
  · rw [csEqb_ok h]
theorem vsEqb_ok : ∀ {a b : List V}, vsEqb a b = true → a = b
  | [], [], _ => rfl
  | a :: as, b :: bs, h => by
    simp only [vsEqb, Bool.and_eq_true] at h
    rw [vEqb_ok h.1, vsEqb_ok h.2]
theorem sEqb_ok {a b : SV} (h : sEqb a b = true) : a = b := by
  cases a <;> cases b <;> simp only [sEqb, Bool.false_eq_true] at h
  · rw [vEqb_ok h]
  · rw [vsEqb_ok h]
theorem tmpsLe_ok : ∀ {as bs : List SV}, tmpsLe as bs = true → as.length = bs.length ∧ ∀ (i : Nat) s, as[i]? = some s → s = topS ∨ bs[i]? = some s
  | [], [], _ => ⟨rfl, by simp⟩
  | a :: as, b :: bs, h => by
    simp only [tmpsLe, Bool.and_eq_true, Bool.or_eq_true] at h
    obtain ⟨h1, h2⟩ := tmpsLe_ok h.2
    refine ⟨by simp [h1], fun i s hi => ?_⟩
    cases i with
    | zero =>
      simp at hi
      subst hi
      rcases h.1 with h3 | h3
      · left
        split at h3
        · rfl
        · cases h3
      · right; rw [sEqb_ok h3]; rfl
    | succ i => simpa using h2 i s (by simpa using hi)
theorem boxLe_ok {a b : Option Box} (h : boxLe a b = true) {x : Box} (hx : a = some x) : b = some x := by
  subst hx
  cases b with
  | none => cases h
  | some y =>
    simp only [boxLe, Bool.and_eq_true, beq_iff_eq] at h
    obtain ⟨⟨h1, h2⟩, h3⟩ := h
    cases x; cases y
    simp only at h1 h2 h3
    rw [h1, h2, csEqb_ok h3]
theorem boxesLe_ok : ∀ {as bs : List (Option Box)}, boxesLe as bs = true → ∀ (i : Nat) b, as[i]? = some (some b) → bs[i]? = some (some b)
  | [], _, _ => by simp
  | a :: as, b :: bs, h => by
    simp only [boxesLe, Bool.and_eq_true] at h
    intro i x hi
    cases i with
    | zero => simp at hi; have := boxLe_ok h.1 hi; simp [this]
    | succ i => simpa using boxesLe_ok h.2 i x (by simpa using hi)
  | a :: as, [], h => by
    simp only [boxesLe, Bool.and_eq_true] at h
    intro i x hi
    cases i with
    | zero => simp at hi; subst hi; cases h.1
    | succ i => exact absurd (boxesLe_ok h.2 i x (by simpa using hi)) (by simp)

/-! ### the head -/
theorem setH_al (σ : St) (cs : List C) (h : Hp) : (setH σ cs h).al = σ.al := by
  cases h with
  | slot t => simp only [setH]; split <;> rfl
  | box t =>
    simp only [setH]
    split
    · rename_i id _
      split
      · rename_i b hb
        have := al_setBox σ id { b with cells := cs }
        funext i
        rw [show ({ σ with boxes := σ.boxes.set id (some { b with cells := cs }) } : St) = σ.setBox id { b with cells := cs } from rfl, this]
        split
        · rename_i hi
          rw [hi.1]
          rw [St.box_def] at hb
          split at hb
          · rename_i b' hb'; exact (al_iff.2 ⟨b', hb'⟩).symm
          · cases hb
        · rfl
      · rfl
    · rfl
theorem putH_al : ∀ (hav : List (Hp × List L)) (nn : Nat) (σ : St), (putH σ nn hav).al = σ.al
  | [], _, _ => rfl
  | (h, ls) :: r, nn, σ => by simp only [putH]; rw [putH_al r, setH_al]
theorem putH_len : ∀ (hav : List (Hp × List L)) (nn : Nat) (σ : St), (putH σ nn hav).tmps.length = σ.tmps.length
  | [], _, _ => rfl
  | (h, ls) :: r, nn, σ => by simp only [putH]; rw [putH_len r, setH_len]
theorem setH_same (σ : St) (cs : List C) (h : Hp) : (setH σ cs h).kn = σ.kn ∧ (setH σ cs h).gl = σ.gl ∧ (setH σ cs h).rows = σ.rows := by
  cases h <;> simp only [setH] <;> (repeat' split) <;> exact ⟨rfl, rfl, rfl⟩
theorem putH_same : ∀ (hav : List (Hp × List L)) (nn : Nat) (σ : St), (putH σ nn hav).kn = σ.kn ∧ (putH σ nn hav).gl = σ.gl ∧ (putH σ nn hav).rows = σ.rows
  | [], _, _ => ⟨rfl, rfl, rfl⟩
  | (h, ls) :: r, nn, σ => by simp only [putH]; rw [(putH_same r _ _).1, (putH_same r _ _).2.1, (putH_same r _ _).2.2]; exact setH_same ..
theorem havOk_slot {hav : List (Hp × List L)} (ha : havOk hav = true) : ∀ q ∈ hav, ∀ t, q.1 = .box t → ∀ q' ∈ hav, q'.1 ≠ .slot t := by
  simp only [havOk, List.all_eq_true, Bool.and_eq_true] at ha
  intro q hq t hqt q' hq' hs
  have := (ha q hq).2
  rw [hqt] at this
  simp only [Bool.not_eq_true', List.any_eq_false] at this
  have := this q' hq'
  rw [hs] at this
  simp [isSlot] at this
/-- what of the head stands in no place of the invariant speaks of old names alone -/
structure HeadOk (σh : St) (N : Nat) (hav : List (Hp × List L)) : Prop where
  tmp : ∀ (i : Nat) s, σh.tmps[i]? = some s → s = topS ∨ (∃ q ∈ hav, q.1 = .slot i) ∨ s.okN N σh.al
  box : ∀ (id : Nat) b, σh.boxes[id]? = some (some b) → (∃ (j : Nat) (t : Nat) (ls : List L), hav[j]? = some (.box t, ls) ∧ σh.get t = .vl (.one (.ptr id 0))) ∨ ∀ c ∈ b.cells, C.okN N σh.al c
theorem C.okN_mono {N N' : Nat} {al : Nat → Bool} {c : C} (h : c.okN N al) (hn : N ≤ N') : c.okN N' al := by
  cases c <;> simp only [C.okN] at h ⊢ <;> first | exact A.ok_mono h hn | exact h | exact ⟨h.1, A.ok_mono h.2.1 hn, A.ok_mono h.2.2 hn⟩ | exact ⟨h.1, A.ok_mono h.2 hn⟩
theorem SV.okN_mono {N N' : Nat} {al : Nat → Bool} {s : SV} (h : s.okN N al) (hn : N ≤ N') : s.okN N' al := by
  cases s with
  | vl v => exact fun c hc => C.okN_mono (h c hc) hn
  | tup l => exact fun v hv c hc => C.okN_mono (h v hv c hc) hn
section
variable {P : Program} {T : List K} {w0 : World} {m : M} {σ : St} {a : Act} {w : World}
theorem head_ok (h : Rep w0 m σ a w) {n0 nv' lv : Nat} {hav : List (Hp × List L)} (ha : havOk hav = true) (hn : σ.nv ≤ n0) : HeadOk { putH σ n0 hav with nv := nv', lvl := lv } n0 hav := by
  have hal : ({ putH σ n0 hav with nv := nv', lvl := lv } : St).al = σ.al := putH_al hav n0 σ
  refine ⟨fun i s hi => ?_, fun id b hb => ?_⟩
  · rcases putH_tmps hav n0 σ i s hi with ⟨h1, _⟩ | ⟨j, ls, h1, _⟩
    · obtain ⟨v, _, hr⟩ := h.tmp i s h1
      exact .inr (.inr (by rw [hal]; exact SV.okN_mono (SV.rel_okN hr) hn))
    · exact .inr (.inl ⟨_, List.mem_of_getElem? h1, rfl⟩)
  · have hsl := havOk_slot ha
    obtain ⟨b0, h1, h2, h3, h4⟩ := putH_boxes hav n0 σ id b hsl hb
    rcases h4 with ⟨rfl, _⟩ | ⟨j, t, ls, h5, h6, _⟩
    · right
      rw [hal]
      cases ho : b.own with
      | true => obtain ⟨_, _, vs, _, hr⟩ := h.own id b h1 ho; exact fun c hc => C.okN_mono (Rels.okN hr c hc) hn
      | false =>
        intro c hc
        rcases h.ro id b h1 ho with h0 | ⟨_, hr⟩
        · rw [h0] at hc; cases hc
        obtain ⟨j, hj⟩ := List.mem_iff_getElem?.1 hc
        obtain ⟨v, _, hv⟩ := hr j c hj
        exact C.okN_mono (C.rel_okN hv) hn
    · refine .inl ⟨j, t, ls, h5, ?_⟩
      show (putH σ n0 hav).get t = _
      rw [putH_get_eq hav n0 σ t (hsl _ (List.mem_of_getElem? h5) t rfl)]; exact h6
theorem dropT_rep : ∀ (l : List Nat) {σ : St}, Rep w0 m σ a w → Rep w0 m (dropT σ l) a w
  | [], _, h => h
  | t :: r, σ, h => by
    refine dropT_rep r ?_
    refine ⟨h.defers, by simp [h.size], fun i s hi => ?_, h.below, h.own, h.ro, h.inj, h.kn, h.gl, h.rows, h.rbox, h.rsep⟩
    have hi : (σ.tmps.set t topS)[i]? = some s := hi
    by_cases hti : t = i
    · subst hti
      have hlt : t < σ.tmps.length := by simpa using (List.getElem?_eq_some_iff.1 hi).1
      rw [List.getElem?_set_self hlt] at hi
      cases hi
      obtain ⟨v, hv, _⟩ := h.tmp t _ (List.getElem?_eq_getElem hlt)
      exact ⟨v, hv, trivial⟩
    · rw [List.getElem?_set_ne hti] at hi
      exact h.tmp i s hi
theorem dropT_same : ∀ (l : List Nat) (σ : St), (dropT σ l).nv = σ.nv ∧ (dropT σ l).boxes = σ.boxes ∧ (dropT σ l).kn = σ.kn ∧ (dropT σ l).gl = σ.gl ∧ (dropT σ l).lvl = σ.lvl ∧ (dropT σ l).tmps.length = σ.tmps.length ∧ (dropT σ l).rows = σ.rows
  | [], _ => ⟨rfl, rfl, rfl, rfl, rfl, rfl, rfl⟩
  | t :: r, σ => by
    obtain ⟨h1, h2, h3, h4, h5, h6, h7⟩ := dropT_same r { σ with tmps := σ.tmps.set t topS }
    exact ⟨h1, h2, h3, h4, h5, h6.trans (by simp), h7⟩
/-- a loop with a measure that is told of the round -/
theorem wp_loop_ex {c : Code} {Q : Exit → Act → World → Prop} (J : Nat → Act → World → Prop) {n0 : Nat} (h₀ : J n0 a w)
    (round : ∀ n a w, J n a w → c.wp P (Exit.then (fun a' w' => ∃ n', n' < n ∧ J n' a' w') Q) a w) : (Code.loop c).wp P Q a w := by
  intro b k cs
  have key : ∀ n a w, J n a w → ∃ e a' w', Q e a' w' ∧ Arrives P (lone (b.at a (.code c :: .inLoop c :: k)) cs w) b k cs e a' w' := by
    intro n
    induction n using Nat.strongRecOn with
    | _ n ih =>
      intro a w hI
      obtain ⟨e, a₁, w₁, hq, harr⟩ := round n a w hI b (.inLoop c :: k) cs
      cases e with
      | normal =>
        obtain ⟨n', hlt, hI₁⟩ := hq
        obtain ⟨e₂, a₂, w₂, hq₂, harr₂⟩ := ih n' hlt a₁ w₁ hI₁
        exact ⟨e₂, a₂, w₂, hq₂, .of_steps (Steps.trans harr (.one step_inLoop)) harr₂⟩
      | exit id => exact ⟨_, a₁, w₁, hq, .pass (x := .inLoop c) rfl (fun _ _ => .inl (by simp)) harr⟩
      | goto l => exact ⟨_, a₁, w₁, hq, .pass (x := .inLoop c) rfl (fun _ _ => .inl (by simp)) harr⟩
      | ret => exact ⟨_, a₁, w₁, hq, .pass (x := .inLoop c) rfl (fun _ _ => .inl (by simp)) harr⟩
      | panic ch => exact ⟨_, a₁, w₁, hq, .pass (x := .inLoop c) rfl (fun _ _ => .inl (by simp)) harr⟩
      | outgrown => exact ⟨_, a₁, w₁, hq, .pass (x := .inLoop c) rfl (fun _ _ => .inl (by simp)) harr⟩
  obtain ⟨e, a', w', hq, harr⟩ := key _ a w h₀
  exact ⟨e, a', w', hq, .of_steps (.one step_loop) harr⟩
theorem updL_low : ∀ (vs : List Int) (e : Nat → Int) (n i : Nat), i < n → updL e n vs i = e i
  | [], _, _, _, _ => rfl
  | v :: vs, e, n, i, h => by
    simp only [updL]
    rw [updL_low vs _ _ _ (by omega)]
    simp [upd]; omega
theorem updL_get : ∀ (vs : List Int) (e : Nat → Int) (n i : Nat) (x : Int), vs[i]? = some x → updL e n vs (n + i) = x
  | [], _, _, _, _, h => by simp at h
  | v :: vs, e, n, 0, x, h => by
    simp at h; subst h
    simp only [updL]
    rw [updL_low vs _ _ _ (by omega)]
    simp [upd]
  | v :: vs, e, n, i + 1, x, h => by
    simp only [updL]
    have := updL_get vs (upd e n v) (n + 1) i x (by simpa using h)
    rwa [show n + 1 + i = n + (i + 1) by omega] at this
def GExt (g g' : Gl) : Prop := g'.goal = g.goal ∧ ∃ r, g'.stk = g.stk ++ r
theorem GExt.refl (g : Gl) : GExt g g := ⟨rfl, [], by simp⟩
theorem GExt.trans {g g' g'' : Gl} (h : GExt g g') (k : GExt g' g'') : GExt g g'' := by
  obtain ⟨h1, r, h2⟩ := h
  obtain ⟨k1, s, k2⟩ := k
  exact ⟨k1.trans h1, r ++ s, by rw [k2, h2, List.append_assoc]⟩
def exitOf : Ex → Exit | .normal => .normal | .exit id => .exit id | .ret => .ret
end
end Go.Sx

/- The engine Sx, part Gr: one element behind a list. -/
namespace Go.Sx
open Go Go.RowKit

section
variable {P : Program} {T : List K} {w0 : World} {m : M} {σ : St} {a : Act} {w : World} {o : Oper}
theorem leaf_vals {k : LK} {x : Int} : lvals [k.leaf] [x] = k.vals x := by
  cases k <;> simp [LK.leaf, lvals, LK.vals]
theorem leaf_has {k : LK} {x : Int} (h : lhas [k.leaf] [x]) : k.has x := by
  cases k <;> simpa [LK.leaf, lhas, LK.has] using h
theorem vals_one (k : LK) (x : Int) : ∀ u ∈ k.vals x, u.oneCell' = true := by
  cases k with
  | num => intro u hu; simp only [LK.vals, limbs, List.mem_map] at hu; obtain ⟨j, _, rfl⟩ := hu; rfl
  | int k => intro u hu; simp only [LK.vals, List.mem_singleton] at hu; subst hu; rfl
theorem flat_snoc (k : LK) (l : List Int) (x : Int) : flat k (l ++ [x]) = flat k l ++ k.vals x := by simp [flat]
structure GrowSpec (P : Program) (σ : St) (nn : Nat) (o : Oper) (g : Grow) (s x : Operand) (t : TypeId) (i : TypeInfo) (z : Value) (id off cap : Nat) (b : Box) : Prop where
  op : o.op = .call { callee := .builtin .append, args := #[s, x], argTypes := #[t, t] }
  und : P.underlying t = some (.slice g.elem)
  info : P.info? g.elem = some i
  zero : i.zero = some z
  zs : z.cells.size = i.size
  size : i.size = g.k.sz
  bytes : i.bytes ≤ 16384
  cell : σ.cell x = some (.slice id off 1 cap)
  box : σ.box id = some b
  len : g.k.sz ≤ (b.cells.drop off).length
  take : takeLs nn [g.k.leaf] ((b.cells.drop off).take g.k.sz) = some (g.defs, [g.a])
  old : (g.old = none ∧ g.x0 = .lit 0 ∧ σ.cell s = some .nilslice) ∨ ∃ id' r, g.old = some id' ∧ g.x0 = r.x ∧ σ.cell s = some (.sl id') ∧ σ.row id' = some r ∧ r.own = true ∧ r.elem = g.elem ∧ r.k = g.k
theorem grow_spec {nn : Nat} {g : Grow} (h : growP P σ nn o.op = some g) : ∃ s x t i z id off cap b, GrowSpec P σ nn o g s x t i z id off cap b := by
  unfold growP at h
  split at h
  · rename_i c hop
    split at h
    · rename_i t t' s x hc ht hx
      split at h
      · rename_i htt
        split at h
        · rename_i e hu
          split at h
          · rename_i i k hi hk
            split at h
            · rename_i z hz
              split at h
              · rename_i hcond
                simp only [Bool.and_eq_true, beq_iff_eq, decide_eq_true_eq] at hcond
                split at h
                · rename_i id off cap hcx
                  split at h
                  · rename_i b hb
                    split at h
                    · rename_i hlen
                      split at h
                      · rename_i ds y htk
                        have hop' : o.op = .call { callee := .builtin .append, args := #[s, x], argTypes := #[t, t] } := by
                          have htt' : t = t' := by simpa using htt
                          subst htt'
                          rw [hop]
                          obtain ⟨callee, args, tys⟩ := c
                          simp only at hc ht hx
                          subst hc
                          have ea : args = #[s, x] := Array.ext' (by simpa using hx)
                          have et : tys = #[t, t] := Array.ext' (by simpa using ht)
                          rw [ea, et]
                        split at h
                        · rename_i hs
                          cases h
                          exact ⟨s, x, t, i, z, id, off, cap, b, ⟨hop', hu, hi, hz, hcond.1.1, hcond.1.2, hcond.2, hcx, hb, by simpa using hlen, htk, .inl ⟨rfl, rfl, hs⟩⟩⟩
                        · rename_i id' hs
                          split at h
                          · rename_i r hr
                            split at h
                            · rename_i hrc
                              simp only [Bool.and_eq_true, beq_iff_eq] at hrc
                              cases h
                              exact ⟨s, x, t, i, z, id, off, cap, b, ⟨hop', hu, hi, hz, hcond.1.1, hcond.1.2, hcond.2, hcx, hb, by simpa using hlen, htk, .inr ⟨id', r, rfl, rfl, hs, hr, hrc.1.1, hrc.1.2, LKeq_ok hrc.2⟩⟩⟩
                            · cases h
                          · cases h
                        · cases h
                      · cases h
                    · cases h
                  · cases h
                · cases h
              · cases h
            · cases h
          · cases h
        · cases h
      · cases h
    · cases h
  · cases h
def M.row (m : M) (id : Nat) (v : Value) : M := { m with sv := fun i => if i = id then v else m.sv i }
/-- the memory behind an append, told of the state without the slot -/
theorem grow_rep (h : Rep w0 m σ a w) {nid : Nat} (hn : σ.boxes[nid]? = some none) {old : Option Nat} {v0 v : Value} {w' : World} {r : Row} {l : List Int}
    (hgrow : w.grownBy w' v0.ownBlock) (hr : RowAt w0 w' r v l) (hl : dec (r.x.ev m.env) = l) (hx : r.x.wf σ.nv m.env) (hown : r.own = true)
    (hold : match old with | none => v0.ownBlock = none | some id => ∃ q ∈ σ.rows, q.1 = id ∧ q.2.own = true ∧ m.sv id = v0)
    {gb : Nat} (hv : v.ownBlock = some gb) (hat : v0.ownBlock = some gb ∨ gb = w.heap.size) :
    Rep w0 (m.row nid v) { σ with boxes := σ.boxes.set nid (some { cells := [], elem := r.elem, own := false }), rows := (nid, r) :: rowsBut σ.rows old } a w' ∧
    MExt m σ.nv σ.al (m.row nid v) σ.nv ({ σ with boxes := σ.boxes.set nid (some { cells := [], elem := r.elem, own := false }), rows := (nid, r) :: rowsBut σ.rows old } : St).al := by
  have hnl : nid < σ.boxes.length := (List.getElem?_eq_some_iff.1 hn).1
  have halq : ({ σ with boxes := σ.boxes.set nid (some { cells := [], elem := r.elem, own := false }), rows := (nid, r) :: rowsBut σ.rows old } : St).al = (σ.setBox nid { cells := [], elem := r.elem, own := false }).al := rfl
  have hne : ∀ {id}, σ.al id = true → id ≠ nid := fun {id} hid e => by
    obtain ⟨b, hb⟩ := al_iff.1 hid; rw [e, hn] at hb; cases hb
  have hx' : MExt m σ.nv σ.al (m.row nid v) σ.nv (σ.setBox nid { cells := [], elem := r.elem, own := false }).al := by
    refine ⟨fun _ _ => rfl, fun _ _ => rfl, rfl, fun id hid => ?_, Nat.le_refl _, fun id hid => ?_⟩
    · simp [M.row, hne hid]
    · rw [al_setBox]; split
      · rfl
      · exact hid
  rw [halq]
  refine ⟨?_, hx'⟩
  have oldb : ∀ {id : Nat} {bx : Box}, (σ.boxes.set nid (some { cells := [], elem := r.elem, own := false }))[id]? = some (some bx) → id ≠ nid → σ.boxes[id]? = some (some bx) := by
    intro id bx hi hne
    simpa [List.getElem?_set_ne (Ne.symm hne)] using hi
  have newb : ∀ {bx : Box}, (σ.boxes.set nid (some { cells := [], elem := r.elem, own := false }))[nid]? = some (some bx) → bx = { cells := [], elem := r.elem, own := false } := by
    intro bx hi
    simp [hnl] at hi
    exact hi.symm
  -- the old row's block is the call's own, and no box's and no other row's
  have hv0 : ∀ k, v0.ownBlock = some k → w0.heap.size ≤ k ∧ k < w.heap.size ∧ (∀ (id : Nat) (b : Box), σ.boxes[id]? = some (some b) → b.own = true → (m.rho id).1 ≠ k) ∧
      ∀ q ∈ σ.rows, q.2.own = true → (∀ id, old = some id → q.1 ≠ id) → (m.sv q.1).ownBlock ≠ some k := by
    intro k hk
    cases old with
    | none => simp only at hold; rw [hold] at hk; cases hk
    | some id =>
      obtain ⟨q, hq, hq1, hq2, hq3⟩ := hold
      subst hq1
      obtain ⟨_, _, r3⟩ := h.rows q hq
      rw [hq3] at r3
      obtain ⟨k1, k2⟩ := r3.lt hq2 hk
      refine ⟨k1, k2, fun id b hb hbo e => h.rbox q hq hq2 id b hb hbo (by rw [hq3, hk, e]), fun q' hq' ho' hid => ?_⟩
      rcases h.rsep q hq q' hq' hq2 ho' (Ne.symm (hid _ rfl)) with h1 | h1
      · rw [hq3, hk] at h1; cases h1
      · rw [hq3, hk] at h1; exact h1
  have hbel : Below w0.heap.size w w' := ⟨hgrow.os, hgrow.tape, hgrow.output, hgrow.size, fun k hk => hgrow.block k (Nat.lt_of_lt_of_le hk h.below.size) fun e => by have := (hv0 k e.symm).1; omega⟩
  have gne : ∀ k, k < w.heap.size → v0.ownBlock ≠ some k → gb ≠ k := fun k hk hne e => by
    rcases hat with h1 | h1
    · exact hne (by rw [h1, e])
    · omega
  have filt : ∀ p : Nat × Row, p ∈ rowsBut σ.rows old → p ∈ σ.rows ∧ ∀ id, old = some id → p.1 ≠ id := by
    intro p hp
    cases old with
    | none => exact ⟨hp, fun _ h => by cases h⟩
    | some id =>
      have := List.mem_filter.1 hp
      exact ⟨this.1, fun id' e => by cases e; simpa using this.2⟩
  have svo : ∀ {id}, σ.al id = true → (m.row nid v).sv id = m.sv id := fun {id} hid => by simp [M.row, hne hid]
  have svn : (m.row nid v).sv nid = v := by simp [M.row]
  refine ⟨h.defers, h.size, fun i s hi => ?_, h.below.trans hbel, fun id b hi ho => ?_, fun id b hi ho => ?_, fun id id' b b' hi hi' ho ho' hd => ?_, h.kn, fun p hp => ?_, fun p hp => ?_, fun p hp ho id b hi hbo => ?_, fun p hp q hq ho ho' hpq => ?_⟩
  · obtain ⟨u, hu, hs⟩ := h.tmp i s hi; exact ⟨u, hu, SV.rel_mono hx' hs⟩
  · by_cases hin : id = nid
    · subst hin; have := newb hi; subst this; cases ho
    · obtain ⟨h1, h2, vs, h3, h4⟩ := h.own id b (oldb hi hin) ho
      refine ⟨h1, h2, vs, ?_, h4.mono hx'⟩
      show w'.heap[(m.rho id).1]? = _
      rw [hgrow.block _ (h.lt_size (oldb hi hin) ho) fun e => (hv0 _ e.symm).2.2.1 id b (oldb hi hin) ho rfl]
      exact h3
  · by_cases hin : id = nid
    · subst hin; have := newb hi; subst this; exact .inl rfl
    · rcases h.ro id b (oldb hi hin) ho with h0 | ⟨h1, h2⟩
      · exact .inl h0
      · refine .inr ⟨h1, fun j c hj => ?_⟩
        obtain ⟨u, h3, h4⟩ := h2 j c hj
        exact ⟨u, by show w'.cell? (m.at id j) = _; rw [hbel.cell (p := m.at id j) h1]; exact h3, C.rel_mono hx' h4⟩
  · have n1 : id ≠ nid := fun e => by subst e; have := newb hi; subst this; cases ho
    have n2 : id' ≠ nid := fun e => by subst e; have := newb hi'; subst this; cases ho'
    exact h.inj id id' b b' (oldb hi n1) (oldb hi' n2) ho ho' hd
  · have h1 := h.gl p hp
    exact ⟨hx'.al _ h1.1, h1.2⟩
  · rcases List.mem_cons.1 hp with rfl | hp
    · refine ⟨by show (σ.setBox nid _).al nid = true; rw [al_setBox]; simp [hnl], hx, ?_⟩
      show RowAt w0 w' r ((m.row nid v).sv nid) (dec (r.x.ev m.env))
      rw [svn, hl]; exact hr
    · obtain ⟨f1, f2⟩ := filt p hp
      obtain ⟨r1, r2, r3⟩ := h.rows p f1
      refine ⟨hx'.al _ r1, r2, ?_⟩
      show RowAt w0 w' p.2 ((m.row nid v).sv p.1) (dec (p.2.x.ev m.env))
      rw [svo r1]
      exact r3.turn (fun g ho hg => hgrow.block _ (r3.lt ho hg).2 fun e => (hv0 _ e.symm).2.2.2 p f1 ho f2 hg) fun q hq => hbel.cell hq
  · have n1 : id ≠ nid := fun e => by subst e; have := newb hi; subst this; cases hbo
    have hb := oldb hi n1
    rcases List.mem_cons.1 hp with rfl | hp
    · show ((m.row nid v).sv nid).ownBlock ≠ some (m.rho id).1
      rw [svn, hv]
      intro e
      exact gne _ (h.lt_size hb hbo) (fun e' => (hv0 _ e').2.2.1 id b hb hbo rfl) (Option.some.inj e)
    · obtain ⟨f1, f2⟩ := filt p hp
      show ((m.row nid v).sv p.1).ownBlock ≠ some (m.rho id).1
      rw [svo (h.rows p f1).1]
      exact h.rbox p f1 ho id b hb hbo
  · have far : ∀ q ∈ σ.rows, q.2.own = true → (∀ id, old = some id → q.1 ≠ id) → (m.sv q.1).ownBlock ≠ some gb := by
      intro q hq ho hid e
      have h1 := (h.rows q hq).2.2.lt ho e
      exact gne gb h1.2 (fun e' => (hv0 _ e').2.2.2 q hq ho hid e) rfl
    rcases List.mem_cons.1 hp with rfl | hp
    · rcases List.mem_cons.1 hq with rfl | hq
      · exact absurd rfl hpq
      · obtain ⟨f1, f2⟩ := filt q hq
        right
        show ((m.row nid v).sv q.1).ownBlock ≠ ((m.row nid v).sv nid).ownBlock
        rw [svn, svo (h.rows q f1).1, hv]
        exact far q f1 ho' f2
    · obtain ⟨f1, f2⟩ := filt p hp
      rcases List.mem_cons.1 hq with rfl | hq
      · right
        show ((m.row nid v).sv nid).ownBlock ≠ ((m.row nid v).sv p.1).ownBlock
        rw [svn, svo (h.rows p f1).1, hv]
        exact fun e => far p f1 ho f2 e.symm
      · obtain ⟨k1, k2⟩ := filt q hq
        show ((m.row nid v).sv p.1).ownBlock = none ∨ ((m.row nid v).sv q.1).ownBlock ≠ ((m.row nid v).sv p.1).ownBlock
        rw [svo (h.rows p f1).1, svo (h.rows q k1).1]
        exact h.rsep p f1 q k1 ho ho' hpq
theorem sz_pos (k : LK) : 0 < k.sz := by cases k <;> simp [LK.sz]
theorem grow_ok (hR : Rep w0 m σ a w) {nid : Nat} (hn : σ.boxes[nid]? = some none) {g : Grow} (hg : growP P σ σ.nv o.op = some g) {goal : Gl} {t : Tree} {K : Act → World → Prop} {Q : Exit → Act → World → Prop}
    (hh : (letts σ.nv (g.defs ++ [(.int .i64, .llen g.x0), (.bit, .cmp .lss (.var (σ.nv + g.defs.length)) (.lit 4294967296))]) (.nz (.var (σ.nv + (g.defs.length + 1))) (.lett (σ.nv + (g.defs.length + 2)) (.lst g.k) (.lapp g.x0 [g.a]) t))).holds T goal m.env)
    (hK : ∀ m' a' w', MExt m σ.nv σ.al m' (growS σ nid g o.dst).nv (growS σ nid g o.dst).al → Rep w0 m' (growS σ nid g o.dst) a' w' → t.holds T goal m'.env → K a' w') : o.wp P a w K Q := by
  obtain ⟨s, x, ty, i, z, id, off, cap, b, G⟩ := grow_spec hg
  obtain ⟨vs, hvl, hr, hv⟩ := hR.reads G.box off g.k.sz G.len
  obtain ⟨k1, k2, k3⟩ := takeLs_ok (T := T) _ _ _ _ _ G.take m σ.nv vs hr
  obtain ⟨k1, k4⟩ := k1 (Nat.le_refl _)
  have hx0 : g.x0.wf σ.nv m.env ∧ g.k.hasL (dec (g.x0.ev m.env)) ∧ w.ownsRow w0.heap.size g.elem g.k.sz (a.eval s) (dec (g.x0.ev m.env)).length (flat g.k (dec (g.x0.ev m.env))) ∧
      (match g.old with | none => (a.eval s).ownBlock = none | some id => ∃ q ∈ σ.rows, q.1 = id ∧ q.2.own = true ∧ m.sv id = a.eval s) := by
    rcases G.old with ⟨h1, h2, h3⟩ | ⟨id', r, h1, h2, h3, h4, h5, h6, h7⟩
    · have hs : a.eval s = .slice none 0 0 := hR.cell h3
      rw [h1, h2, hs]
      simp only [A.ev, dec_zero]
      exact ⟨⟨trivial, trivial⟩, ⟨by simp, by simp⟩, World.ownsRow_nil .., rfl⟩
    · have hs : σ.al id' = true ∧ a.eval s = m.sv id' ∧ (a.eval s).oneCell' = true := hR.cell h3
      obtain ⟨q1, q2, q3⟩ := hR.row_ok h4
      have q4 := q3.2
      rw [h5] at q4
      simp only [if_true] at q4
      rw [h1, h2, ← h6, ← h7, hs.2.1]
      exact ⟨q2, q3.1, q4, _, rowIn_mem h4, rfl, h5, rfl⟩
  obtain ⟨x1, x2, x3, x4⟩ := hx0
  generalize hl : dec (g.x0.ev m.env) = l at x2 x3
  have gen : GenOk T m.env σ.nv (g.defs ++ [(.int .i64, .llen g.x0), (.bit, .cmp .lss (.var (σ.nv + g.defs.length)) (.lit 4294967296))]) := by
    refine gen_append _ _ _ _ k1 fun e' he _ => ⟨A.ok_mono x1.1 (by omega), ?_, ⟨Nat.lt_succ_self _, trivial⟩, b2i_bit _, trivial⟩
    simp only [KK.has, D.ev]
    rw [A.ev_congr x1.1 he, hl]
    have := x2.1
    simp only [has, lo, hi]; omega
  obtain ⟨e1, b1, b2, b3, b4⟩ := letts_holds _ _ _ hh gen
  obtain ⟨c1, c2⟩ := (Told.append).1 b3
  have hx0e : g.x0.ev e1 = g.x0.ev m.env := A.ev_congr x1.1 b1
  have d0 : e1 (σ.nv + g.defs.length) = (l.length : Int) := by
    have := (c2 0 _ _ rfl).1
    simpa [D.ev, hx0e, hl] using this
  have d1 : e1 (σ.nv + g.defs.length + 1) = b2i (decide (e1 (σ.nv + g.defs.length) < 4294967296)) := (c2 1 _ _ rfl).1
  obtain ⟨nzf, lt⟩ := b4
  have hlen : l.length < 4294967296 := by
    have : e1 (σ.nv + g.defs.length + 1) ≠ 0 := nzf
    rw [d1, d0] at this
    by_cases hc : (l.length : Int) < 4294967296
    · omega
    · simp [hc, b2i] at this
  obtain ⟨v1, v2⟩ := k3 e1 b1 c1
  rw [List.map_cons, List.map_nil, leaf_vals] at v1
  have v2 : g.k.has (g.a.ev e1) := leaf_has v2
  generalize hy : g.a.ev e1 = y at v1 v2
  have hd : D.ev T e1 (.lapp g.x0 [g.a]) = enc (l ++ [y]) := by simp only [D.ev, hx0e, hl, List.map_cons, List.map_nil, hy]
  have hhas : g.k.hasL (l ++ [y]) := ⟨by simp; omega, fun q hq => by
    rcases List.mem_append.1 hq with hq | hq
    · exact x2.2 q hq
    · rw [List.mem_singleton.1 hq]; exact v2⟩
  have t1 := lt (enc (l ++ [y])) hd.symm (by simp only [KK.has, dec_enc]; exact hhas)
  have henv : ∀ j, j < σ.nv → upd e1 (σ.nv + (g.defs.length + 2)) (enc (l ++ [y])) j = m.env j := fun j hj => by
    simp only [upd]; rw [if_neg (by omega)]; exact b1 j hj
  have hnm := hR.names _ henv (σ.nv + (g.defs.length + 3)) (by omega)
  have hxc := hR.cell G.cell
  refine wp_append_lies w s x ty G.op w0.heap.size g.elem i z g.k.sz i.bytes G.und G.info G.zero G.size rfl (G.zs.trans G.size) (sz_pos _) (a.eval s) l.length (flat g.k l) rfl x3 (m.at id off) 1 cap vs hxc.2 (by rw [hvl, Nat.one_mul]) hv
    (by rw [← v1]; exact vals_one _ _) (by omega) (by simp only [maxLen]; omega) ?_ hR.below.size w.heap.size rfl fun gb cap' w' hown' hgrow hat hlt => ?_
  · have := G.bytes
    have h1 : (l.length + 1) * i.bytes ≤ 4294967296 * 16384 := Nat.mul_le_mul (by omega) this
    omega
  · have hn' : ({ σ with nv := σ.nv + (g.defs.length + 3) } : St).boxes[nid]? = some none := hn
    obtain ⟨r1, r2⟩ := grow_rep hnm hn' (old := g.old) (v0 := a.eval s) (v := .slice (some ⟨gb, 0, none⟩) (l.length + 1) cap') (w' := w') (r := { x := .var (σ.nv + (g.defs.length + 2)), k := g.k, elem := g.elem, own := true }) (l := l ++ [y]) hgrow
      ⟨hhas, by simp only [if_true]; rw [flat_snoc, v1, List.length_append]; exact hown'⟩ (by simp [A.ev, upd, dec_enc]) ⟨by show σ.nv + (g.defs.length + 2) < σ.nv + (g.defs.length + 3); omega, trivial⟩ rfl x4 rfl hat
    have eq : growS σ nid g o.dst = ({ σ with nv := σ.nv + (g.defs.length + 3), boxes := σ.boxes.set nid (some { cells := [], elem := g.elem, own := false }), rows := (nid, { x := .var (σ.nv + (g.defs.length + 2)), k := g.k, elem := g.elem, own := true }) :: rowsBut σ.rows g.old } : St).put o.dst (.vl (.one (.sl nid))) := by
      unfold growS; rw [lset_eq]
    have hnl : nid < σ.boxes.length := (List.getElem?_eq_some_iff.1 hn).1
    have fin := r1.put (s := .vl (.one (.sl nid))) (v := .slice (some ⟨gb, 0, none⟩) (l.length + 1) cap') ⟨by
      show (σ.setBox nid _).al nid = true; rw [al_setBox]; simp [hnl], by simp [M.row], rfl⟩ o.dst
    have hal : ∀ (τ : St) (d : Option Nat) (q : SV), (τ.put d q).al = τ.al ∧ (τ.put d q).nv = τ.nv := fun τ d q => by cases d <;> exact ⟨rfl, rfl⟩
    refine hK _ _ _ ?_ (by rw [eq]; exact fin) t1
    rw [eq, (hal _ _ _).1, (hal _ _ _).2]
    refine MExt.trans (m' := { m with env := upd e1 (σ.nv + (g.defs.length + 2)) (enc (l ++ [y])) }) (nv' := σ.nv + (g.defs.length + 3)) (al' := σ.al) ⟨henv, fun _ _ => rfl, rfl, fun _ _ => rfl, by omega, fun _ h => h⟩ r2
end
end Go.Sx

/- The engine Sx, part Z: the runner tells the truth. -/
namespace Go.Sx
open Go Go.RowKit

section
variable {P : Program} {T : List K} {LA : List Ann} {w0 : World} {m : M} {σ : St} {a : Act} {w : World}
def jobWp (P : Program) (n : Nat) (Q : Exit → Act → World → Prop) : Job → Act → World → Prop
  | .code c, a, w => c.wp P Q a w
  | .rounds c, a, w => Code.rounds P c Q n a w
  | .ops all l, a, w => wpList P all Q l a w
def Sound (P : Program) (T : List K) (LA : List Ann) (n : Nat) : Prop := ∀ (job : Job) (σ : St) (k : Ex → St → Tree) (w0 : World) (m : M) (a : Act) (w : World) (goal : Gl) (Q : Exit → Act → World → Prop),
  Rep w0 m σ a w → σ.lvl = goal.stk.length → (run P T LA n job σ k).holds T goal m.env →
  (∀ e σ' m' a' w' goal', GExt goal goal' → σ'.lvl = goal'.stk.length → MExt m σ.nv σ.al m' σ'.nv σ'.al → Rep w0 m' σ' a' w' → (k e σ').holds T goal' m'.env → Q (exitOf e) a' w') → jobWp P n Q job a w
theorem plan_new {nn nid : Nat} {op : Op} {p : Plan} (hp : plan P T σ nn nid op = .ok p) (he : isNew p.eff = true) : mayNew op = true := by
  cases op with
  | alloc e => rfl
  | box e x => rfl
  | buildSlice t n ps => rfl
  | call c => rfl
  | binOp op t x y yt =>
    exfalso
    simp only [plan] at hp
    split at hp
    · unfold planBin at hp
      split at hp
      · simp only [binInt, mkP] at hp
        repeat' split at hp
        all_goals (first | (cases hp; done) | (cases hp; cases he; done))
      all_goals
        try simp only [mkP, okP] at hp
        repeat' split at hp
        all_goals (first | (cases hp; done) | (cases hp; cases he; done))
    · cases hp
  | _ =>
    exfalso
    simp only [plan, okP, partC, mkP, loadRow] at hp
    repeat' split at hp
    all_goals (first | (cases hp; done) | (cases hp; cases he; done))
theorem room_ok (h : Rep w0 m σ a w) (op : Op) : Rep w0 m (room σ op) a w ∧ (room σ op).nv = σ.nv ∧ (room σ op).lvl = σ.lvl ∧ (room σ op).al = σ.al ∧ (mayNew op = true → (room σ op).boxes[σ.boxes.length]? = some none) := by
  unfold room
  split
  · refine ⟨h.room 1, rfl, rfl, ?_, fun _ => by simp⟩
    funext id
    unfold St.al
    by_cases hl : id < σ.boxes.length
    · simp [List.getElem?_append_left hl]
    · simp only [List.getElem?_eq_none (show σ.boxes.length ≤ id by omega)]
      rw [List.getElem?_append_right (by omega)]
      by_cases h2 : id - σ.boxes.length = 0
      · simp [h2]
      · rw [List.getElem?_eq_none (by simp; omega)]
  · rename_i hm
    exact ⟨h, rfl, rfl, rfl, fun e => absurd e hm⟩
theorem knows (h : Rep w0 m σ a w) {v : Nat} {t f : Tree} {goal : Gl} (hh : (Tree.split v t f).holds T goal m.env) (hv : v < σ.nv) :
    (Rep w0 m (σ.know v true) a w ∧ t.holds T goal m.env ∧ m.env v ≠ 0) ∨ (Rep w0 m (σ.know v false) a w ∧ f.holds T goal m.env ∧ m.env v = 0) := by
  obtain ⟨h1, h2⟩ := hh
  by_cases hz : m.env v = 0
  · exact .inr ⟨h.know hv (by simp [hz]), h2 hz, hz⟩
  · exact .inl ⟨h.know hv (by simp [hz]), h1 hz, hz⟩
theorem rowsLe_ok {l k : List (Nat × Row)} (h : rowsLe l k = true) : ∀ p ∈ l, p ∈ k := by
  intro p hp
  have := List.all_eq_true.1 h p hp
  obtain ⟨q, hq, h2⟩ := List.any_eq_true.1 this
  simp only [rowEqb, Bool.and_eq_true, beq_iff_eq] at h2
  obtain ⟨h3, ⟨⟨h4, h5⟩, h6⟩, h7⟩ := h2
  obtain ⟨p1, px, pk, pe, po⟩ := p
  obtain ⟨q1, qx, qk, qe, qo⟩ := q
  simp only at h3 h4 h5 h6 h7
  rw [h3, eqA_ok h4, LKeq_ok h5, h6, h7]
  exact hq
/-- a loop with an invariant -/
theorem loop_ok (hR : Rep w0 m σ a w) {goal : Gl} (hlvl : σ.lvl = goal.stk.length) {dl : List Nat} {hav : List (Hp × List L)} {d : Defs × List A} {body : Tree} {c : Code} {k : Ex → St → Tree} {Q : Exit → Act → World → Prop} {why : String}
    (hd : takeH (dropT σ dl) σ.nv hav = some d) (ha : havOk hav = true)
    {σh : St} (hσh : σh = { putH (dropT σ dl) (σ.nv + d.1.length) hav with nv := σ.nv + d.1.length + hcount hav, lvl := σ.lvl + 1 })
    (hh : (letts σ.nv d.1 (.loop d.2 (hkks hav) (σ.nv + d.1.length) body)).holds T goal m.env)
    (hbody : ∀ m' a' w' goal' Q', Rep w0 m' σh a' w' → σh.lvl = goal'.stk.length → body.holds T goal' m'.env →
      (∀ e σ' m'' a'' w'' goal'', GExt goal' goal'' → σ'.lvl = goal''.stk.length → MExt m' σh.nv σh.al m'' σ'.nv σ'.al → Rep w0 m'' σ' a'' w'' →
        (match e with
          | .normal => match backH σh σ' (σ.nv + d.1.length) hav with
            | some b => letts σ'.nv b.1 (.back σ.lvl b.2)
            | none => .bad 311 why
          | e => k e σ').holds T goal'' m''.env → Q' (exitOf e) a'' w'') → c.wp P Q' a' w')
    (hQ : ∀ e σ' m' a' w' goal', GExt goal goal' → σ'.lvl = goal'.stk.length → MExt m σ.nv σ.al m' σ'.nv σ'.al → Rep w0 m' σ' a' w' → (k e σ').holds T goal' m'.env → Q (exitOf e) a' w') :
    (Code.loop c).wp P Q a w := by
  obtain ⟨d1, d2⟩ := d
  simp only at hσh hh hbody
  have hRd := dropT_rep dl hR
  obtain ⟨s1, s2, s3, s4, s5, s6, s7⟩ := dropT_same dl σ
  have hald : (dropT σ dl).al = σ.al := by funext id; unfold St.al; rw [s2]
  obtain ⟨t1, t2, t3⟩ := takeH_ok (T := T) hRd hav _ _ _ hd
  obtain ⟨g1, g2⟩ := t1 (by omega)
  obtain ⟨e0, b1, b2, b3, b4⟩ := letts_holds _ _ _ hh g1
  obtain ⟨I, μ, i1, i2⟩ := b4
  obtain ⟨t4, _⟩ := t3 e0 (fun i hi => b1 i (by omega)) b3
  have hnv : σh.nv = σ.nv + d1.length + hcount hav := by rw [hσh]
  have hhead : HeadOk σh (σ.nv + d1.length) hav := by rw [hσh]; exact head_ok hRd ha (by omega)
  have halh : σh.al = σ.al := by rw [hσh]; exact (putH_al hav _ _).trans hald
  have hknh : σh.kn = σ.kn := by rw [hσh]; exact (putH_same hav _ _).1.trans s3
  have hglh : σh.gl = σ.gl := by rw [hσh]; exact (putH_same hav _ _).2.1.trans s4
  have hrowh : σh.rows = σ.rows := by rw [hσh]; exact (putH_same hav _ _).2.2.trans s7
  have hlenh : σh.tmps.length = σ.tmps.length := by rw [hσh]; exact (putH_len hav _ _).trans s6
  have htmph : σh.tmps = (putH (dropT σ dl) (σ.nv + d1.length) hav).tmps := by rw [hσh]
  have hboxh : σh.boxes = (putH (dropT σ dl) (σ.nv + d1.length) hav).boxes := by rw [hσh]
  have hlvh : σh.lvl = σ.lvl + 1 := by rw [hσh]
  have hsl := havOk_slot ha
  -- what holds at every round's head
  let J : Nat → Act → World → Prop := fun n a' w' => ∃ (mr : M) (vs : List Int), vs.length = hcount hav ∧ kkHas (hkks hav) vs ∧ I vs ∧ μ vs = n ∧ mr.env = updL e0 (σ.nv + d1.length) vs ∧ MExt m σ.nv σ.al mr σh.nv σh.al ∧ Rep w0 mr σh a' w'
  have hkn' : ∀ (vs : List Int), ∀ p ∈ σh.kn, p.1 < σh.nv ∧ decide (updL e0 (σ.nv + d1.length) vs p.1 ≠ 0) = p.2 := by
    intro vs p hp
    rw [hknh] at hp
    obtain ⟨h1, h2⟩ := hR.kn p hp
    refine ⟨by omega, ?_⟩
    rw [updL_low _ _ _ _ (by omega), b1 _ h1]; exact h2
  have J0 : J (μ (d2.map (·.ev e0))) a w := by
    refine ⟨{ m with env := updL e0 (σ.nv + d1.length) (d2.map (·.ev e0)) }, d2.map (·.ev e0), by simpa using t2, t4, i1, rfl, rfl, ?_, ?_⟩
    · refine ⟨fun i hi => ?_, fun _ _ => rfl, rfl, fun _ _ => rfl, by omega, fun id hid => by rw [halh]; exact hid⟩
      show updL e0 _ _ i = _
      rw [updL_low _ _ _ _ (by omega), b1 i hi]
    · refine gen_rep (T := T) (n0 := σ.nv + d1.length) (N := σ.nv) (e := e0) hRd hd (fun i hi => b1 i (by omega)) b3 ha (fun i hi => ?_) (fun i x hx => updL_get _ _ _ _ _ hx) (by omega) (by omega) (by rw [hlenh, s6]) (fun i s hi => ?_) (fun id b hb => ?_) (hkn' _) (fun p hp => ?_) (fun p hp => ?_)
      · rw [updL_low _ _ _ _ (by omega), b1 i hi]
      · rw [htmph] at hi
        right
        refine ⟨hi, ?_⟩
        rcases putH_tmps hav _ _ i s hi with ⟨h1, _⟩ | ⟨j, ls, h1, _⟩
        · obtain ⟨v, _, hr⟩ := hRd.tmp i s h1
          right
          have := SV.rel_okN hr
          rw [s1, hald] at this
          rw [halh]; exact this
        · exact .inl ⟨_, List.mem_of_getElem? h1, rfl⟩
      · rw [hboxh] at hb
        refine ⟨hb, ?_⟩
        obtain ⟨b0, h1, h2, h3, h4⟩ := putH_boxes hav _ _ id b hsl hb
        rcases h4 with ⟨rfl, _⟩ | ⟨j, t, ls, h5, h6, _⟩
        · right
          rw [halh, ← hald]
          rw [← s1]
          cases ho : b.own with
          | true => obtain ⟨_, _, vs, _, hr⟩ := hRd.own id b h1 ho; exact fun c hc => Rels.okN hr c hc
          | false =>
            intro c hc
            rcases hRd.ro id b h1 ho with h0 | ⟨_, hr⟩
            · rw [h0] at hc; cases hc
            obtain ⟨j, hj⟩ := List.mem_iff_getElem?.1 hc
            obtain ⟨v, _, hv⟩ := hr j c hj
            exact C.rel_okN hv
        · exact .inl ⟨j, t, ls, h5, h6⟩
      · rw [hglh] at hp
        rw [halh]
        exact hR.gl p hp
      · rw [hrowh] at hp
        obtain ⟨r1, r2, _⟩ := hR.rows p hp
        exact ⟨by rw [s7]; exact hp, r2.1, by rw [halh]; exact r1⟩
  refine wp_loop_ex J J0 fun n a' w' hJ => ?_
  obtain ⟨mr, vs, v1, v2, v3, v4, v5, v6, v7⟩ := hJ
  have hbh := i2 vs v2 v3
  rw [← v5] at hbh
  refine hbody mr a' w' _ _ v7 (by rw [hlvh]; simp [hlvl]) hbh fun e σ' m'' a'' w'' goal'' x1 x2 x3 x4 x5 => ?_
  have xg : GExt goal goal'' := GExt.trans (g' := { goal with stk := goal.stk ++ [fun us => I us ∧ μ us < μ vs] }) ⟨rfl, _, rfl⟩ x1
  cases e with
  | exit id => exact hQ (.exit id) σ' m'' a'' w'' goal'' xg x2 (v6.trans x3) x4 x5
  | ret => exact hQ .ret σ' m'' a'' w'' goal'' xg x2 (v6.trans x3) x4 x5
  | normal =>
    simp only at x5
    show ∃ n', n' < n ∧ J n' a'' w''
    cases hb : backH σh σ' (σ.nv + d1.length) hav with
    | none => rw [hb] at x5; exact x5.elim
    | some bb =>
      rw [hb] at x5
      simp only at x5
      obtain ⟨bd, ba⟩ := bb
      unfold backH at hb
      split at hb
      · cases hb
      · rename_i dd hdd
        simp only at hb
        split at hb
        · rename_i hcond
          cases hb
          simp only [Bool.and_eq_true, List.all_eq_true] at hcond
          obtain ⟨⟨⟨c0, c1⟩, c2⟩, c3⟩ := hcond
          obtain ⟨c4, c5⟩ := tmpsLe_ok c1
          have c6 := boxesLe_ok c2
          obtain ⟨u1, u2, u3⟩ := takeH_ok (T := T) x4 hav _ _ _ hdd
          obtain ⟨f1, f2⟩ := u1 (Nat.le_refl _)
          obtain ⟨e1, k1, k2, k3, k4⟩ := letts_holds _ _ _ x5 f1
          obtain ⟨u4, _⟩ := u3 e1 (fun i hi => k1 i hi) k3
          have k5 : I (ba.map (·.ev e1)) ∧ μ (ba.map (·.ev e1)) < μ vs := by
            obtain ⟨_, r, hr⟩ := x1
            simp only [Tree.holds] at k4
            rw [hr] at k4
            have : (goal.stk ++ [fun us => I us ∧ μ us < μ vs] ++ r)[σ.lvl]? = some (fun us => I us ∧ μ us < μ vs) := by
              rw [hlvl, List.append_assoc, List.getElem?_append_right (Nat.le_refl _)]; simp
            simp only [this] at k4
            exact k4
          have henv : ∀ i, i < σ.nv + d1.length → updL e0 (σ.nv + d1.length) (ba.map (·.ev e1)) i = m''.env i := fun i hi => by
            rw [updL_low _ _ _ _ hi, x3.env i (by omega), v5, updL_low _ _ _ _ hi]
          have hrep : Rep w0 { m'' with env := updL e0 (σ.nv + d1.length) (ba.map (·.ev e1)) } σh a'' w'' := by
            refine gen_rep (T := T) (n0 := σ.nv + d1.length) (N := σ.nv + d1.length) (e := e1) x4 hdd (fun i hi => k1 i hi) k3 ha henv (fun i x hx => updL_get _ _ _ _ _ hx) (by omega) (by omega) (by rw [c4, putH_len]) (fun i s hi => ?_) (fun id b hb => ?_) (hkn' _) (fun p hp => ?_) (fun p hp => ?_)
            · rcases c5 i s hi with h | h
              · exact .inl h
              · rcases hhead.tmp i s hi with h' | h' | h'
                · exact .inl h'
                · exact .inr ⟨h, .inl h'⟩
                · exact .inr ⟨h, .inr h'⟩
            · refine ⟨c6 id b hb, ?_⟩
              rcases hhead.box id b hb with ⟨j, t, ls, h1, h2⟩ | h
              · have := c3 _ (List.mem_of_getElem? h1)
                simp only at this
                exact .inl ⟨j, t, ls, h1, by rw [← sEqb_ok this]; exact h2⟩
              · exact .inr h
            · obtain ⟨q1, q2⟩ := v7.gl p hp
              exact ⟨q1, by rw [x3.rho _ q1]; exact q2⟩
            · obtain ⟨r1, r2, _⟩ := hR.rows p (by rw [← hrowh]; exact hp)
              exact ⟨rowsLe_ok c0 p hp, A.ok_mono r2.1 (by omega), by rw [halh]; exact r1⟩
          refine ⟨μ (ba.map (·.ev e1)), by rw [← v4]; exact k5.2, { m'' with env := updL e0 (σ.nv + d1.length) (ba.map (·.ev e1)) }, ba.map (·.ev e1), by simpa using u2, u4, k5.1, rfl, rfl, ?_, hrep⟩
          have hx := v6.trans x3
          refine ⟨fun i hi => ?_, hx.rho, hx.ext, hx.sv, by omega, fun id hid => by rw [halh]; exact hid⟩
          show updL e0 _ _ i = _
          rw [updL_low _ _ _ _ (by omega), b1 i hi]
        · cases hb
theorem run_sound (hm : P.follows .mixedOrders = true) (hT : ∀ (g : Nat) κ, T[g]? = some κ → κ.ok P) : ∀ n, Sound P T LA n := by
  intro n
  induction n with
  | zero => intro job σ k w0 m a w goal Q _ _ hh _; exact hh.elim
  | succ n ih =>
    intro job σ k w0 m a w goal Q hR hl hh hK
    -- the same job once more, with more known
    have again : ∀ {job' : Job} {v : Nat} {k' : Ex → St → Tree} {Q' : Exit → Act → World → Prop}, v < σ.nv → (Tree.split v (run P T LA n job' (σ.know v true) k') (run P T LA n job' (σ.know v false) k')).holds T goal m.env →
        (∀ e σ' m' a' w' goal', GExt goal goal' → σ'.lvl = goal'.stk.length → MExt m σ.nv σ.al m' σ'.nv σ'.al → Rep w0 m' σ' a' w' → (k' e σ').holds T goal' m'.env → Q' (exitOf e) a' w') → jobWp P n Q' job' a w := by
      intro job' v k' Q' hv hs hk
      rcases knows hR hs hv with ⟨h1, h2, _⟩ | ⟨h1, h2, _⟩
      · exact ih job' _ _ _ _ _ _ _ _ h1 hl h2 hk
      · exact ih job' _ _ _ _ _ _ _ _ h1 hl h2 hk
    cases job with
    | rounds c =>
      show c.wp P (Exit.then (Code.rounds P c Q n) Q) a w
      refine ih (.code c) _ _ _ _ _ _ _ _ hR hl hh fun e σ' m' a' w' goal' x1 x2 x3 x4 x5 => ?_
      cases e with
      | normal => exact ih (.rounds c) _ _ _ _ _ _ _ _ x4 x2 x5 fun e σ'' m'' a'' w'' goal'' y1 y2 y3 y4 y5 => hK e σ'' m'' a'' w'' goal'' (x1.trans y1) y2 (x3.trans y3) y4 y5
      | exit id => exact hK (.exit id) _ _ _ _ _ x1 x2 x3 x4 x5
      | ret => exact hK .ret _ _ _ _ _ x1 x2 x3 x4 x5
    | ops all l =>
      cases l with
      | nil => exact hK .normal _ _ _ _ _ (GExt.refl _) hl (MExt.refl ..) hR hh
      | cons o rest =>
        obtain ⟨g1, g2⟩ := guard_ok hR (all := all) (o := o)
        simp only [run] at hh
        have hrest : ∀ {σ1 : St} {m1 : M} {a1 : Act} {w1 : World} {goal1 : Gl}, Rep w0 m1 σ1 a1 w1 → σ1.lvl = goal1.stk.length → GExt goal goal1 → MExt m σ.nv σ.al m1 σ1.nv σ1.al → (run P T LA n (.ops all rest) σ1 k).holds T goal1 m1.env → wpList P all Q rest a1 w1 :=
          fun h1 h2 h3 h4 h5 => ih (.ops all rest) _ _ _ _ _ _ _ _ h1 h2 h5 fun e σ'' m'' a'' w'' goal'' y1 y2 y3 y4 y5 => hK e σ'' m'' a'' w'' goal'' (h3.trans y1) y2 (h4.trans y3) y4 y5
        cases hg : guardG all σ o with
        | bad => rw [hg] at hh; exact hh.elim
        | need v =>
          rw [hg] at hh
          simp only at hh
          split at hh
          · rename_i hv; exact again (job' := .ops all (o :: rest)) hv hh hK
          · exact hh.elim
        | no =>
          rw [hg] at hh
          show if Region.wanted o (yielded all a.tmps) then _ else _
          rw [if_neg (by rw [g2 hg]; simp)]
          have hp := hR.put (s := undefS) (v := undef) ⟨[], rfl, trivial⟩ o.dst
          have hal : (σ.put o.dst undefS).al = σ.al := by funext id; unfold St.al; rw [(put_same _ _ _).2.1]
          have hn : (σ.put o.dst undefS).nv = σ.nv := (put_same _ _ _).1
          exact hrest hp (by rw [(put_same _ _ _).2.2.2.2.1]; exact hl) (GExt.refl _) (by rw [hal, hn]; exact MExt.refl ..) hh
        | yes =>
          rw [hg] at hh
          simp only at hh
          obtain ⟨r1, r2, r3, r4, r5⟩ := room_ok hR o.op
          have wl : o.wp P a w (wpList P all Q rest) Q → wpList P all Q (o :: rest) a w := fun h => by
            show if Region.wanted o (yielded all a.tmps) then _ else _
            rw [if_pos (g1 hg)]; exact .inl h
          cases hgr : growP P (room σ o.op) σ.nv o.op with
          | some g =>
            rw [hgr] at hh
            simp only at hh
            have hmay : mayNew o.op = true := by
              unfold growP at hgr
              split at hgr
              · rename_i c hc; rw [hc]; rfl
              · cases hgr
            rw [← r2] at hgr hh
            refine wl (grow_ok r1 (r5 hmay) hgr hh fun m' a' w' x3 x4 x5 => ?_)
            rw [r2, r4] at x3
            have hlv : (growS (room σ o.op) σ.boxes.length g o.dst).lvl = goal.stk.length := by
              unfold growS; rw [(put_same _ _ _).2.2.2.2.1]; exact r3.trans hl
            exact hrest x4 hlv (GExt.refl _) x3 x5
          | none =>
          rw [hgr] at hh
          simp only at hh
          cases hp : plan P T (room σ o.op) σ.nv σ.boxes.length o.op with
          | bad why => rw [hp] at hh; exact hh.elim
          | need v =>
            rw [hp] at hh
            simp only at hh
            split at hh
            · rename_i hv
              exact again (job' := .ops all (o :: rest)) hv hh hK
            · exact hh.elim
          | ok p =>
            rw [hp] at hh
            simp only at hh
            refine wl (op_step hT r1 hp (by rw [r2]; exact Nat.le_refl _) (fun hn => r5 (plan_new hp hn)) (σ.nv + p.defs.length + p.post.length) (Nat.le_refl _) hh fun m' a' w' _ _ x3 x4 x5 => ?_)
            rw [r2, r4] at x3
            exact hrest x4 (by rw [(applyP_len _ _ _ _).2.2]; exact r3.trans hl) (GExt.refl _) (by rw [(applyP_len _ _ _ _).2.1]; exact x3) x5
          | call f args =>
            rw [hp] at hh
            simp only at hh
            cases hf : P.funcs[f]? with
            | none => rw [hf] at hh; exact hh.elim
            | some fn =>
              rw [hf] at hh
              simp only at hh
              cases hb : fn.body with
              | none => rw [hb] at hh; exact hh.elim
              | some c =>
                rw [hb] at hh
                simp only at hh
                split at hh
                · exact hh.elim
                · rename_i hnm
                  obtain ⟨us, u1, u2⟩ := plan_call r1 hp
                  rw [r2, r4] at u1
                  refine wl ?_
                  unfold Oper.wp
                  rw [u2, run_callFunc hf (by simpa using hnm) hb]
                  refine calls_of_wp hf hb ?_
                  have hin := enter_rep hR u1 fn.ntmps
                  refine ih (.code c) _ _ _ _ _ _ _ _ hin hl hh fun e σ' m' a' w' goal' x1 x2 x3 x4 x5 => ?_
                  have key : e = .normal ∨ e = .ret → bodyPost P fn (fun e w' => match e with | .returned v => wpList P all Q rest (a.put o.dst v) w' | .panicked chain => Q (.panic chain) a w' | .outgrown => Q .outgrown a w') (exitOf e) a' w' := by
                    intro he
                    have x6 : (match resS P σ' fn with | some vs => run P T LA n (.ops all rest) ({ σ' with tmps := σ.tmps }.put o.dst (retS vs)) k | none => .bad 307 o.pos).holds T goal' m'.env := by
                      rcases he with rfl | rfl <;> exact x5
                    cases hrs : resS P σ' fn with
                    | none => rw [hrs] at x6; exact x6.elim
                    | some vs =>
                      rw [hrs] at x6
                      simp only at x6
                      obtain ⟨zs, z1, z2⟩ := res_ok x4 hrs
                      have hback := (hR.back x4 x3).put (s := retS vs) (v := retV zs) (ret_rel z2) o.dst
                      have hal : (({ σ' with tmps := σ.tmps } : St).put o.dst (retS vs)).al = σ'.al := by funext id; unfold St.al; rw [(put_same _ _ _).2.1]
                      have hn : (({ σ' with tmps := σ.tmps } : St).put o.dst (retS vs)).nv = σ'.nv := (put_same _ _ _).1
                      have hgo := hrest hback (by rw [(put_same _ _ _).2.2.2.2.1]; exact x2) x1 (by rw [hal, hn]; exact x3) x6
                      have hd := x4.defers
                      rcases he with rfl | rfl <;> exact ⟨hd, retV zs, z1, hgo⟩
                  cases e with
                  | normal => exact key (.inl rfl)
                  | ret => exact key (.inr rfl)
                  | exit id => exact x5.elim
    | code c =>
      show c.wp P Q a w
      cases c with
      | skip => exact wp_skip (hK .normal _ _ _ _ _ (GExt.refl _) hl (MExt.refl ..) hR hh)
      | label l => exact wp_label (hK .normal _ _ _ _ _ (GExt.refl _) hl (MExt.refl ..) hR hh)
      | exit id => exact wp_exit (hK (.exit id) _ _ _ _ _ (GExt.refl _) hl (MExt.refl ..) hR hh)
      | ret => exact wp_ret (hK .ret _ _ _ _ _ (GExt.refl _) hl (MExt.refl ..) hR hh)
      | seq x y =>
        refine wp_seq (ih (.code x) _ _ _ _ _ _ _ _ hR hl hh fun e σ' m' a' w' goal' x1 x2 x3 x4 x5 => ?_)
        cases e with
        | normal => exact ih (.code y) _ _ _ _ _ _ _ _ x4 x2 x5 fun e σ'' m'' a'' w'' goal'' y1 y2 y3 y4 y5 => hK e σ'' m'' a'' w'' goal'' (x1.trans y1) y2 (x3.trans y3) y4 y5
        | exit id => exact hK (.exit id) _ _ _ _ _ x1 x2 x3 x4 x5
        | ret => exact hK .ret _ _ _ _ _ x1 x2 x3 x4 x5
      | block id c =>
        refine wp_block (ih (.code c) _ _ _ _ _ _ _ _ hR hl hh fun e σ' m' a' w' goal' x1 x2 x3 x4 x5 => ?_)
        cases e with
        | normal => exact hK .normal _ _ _ _ _ x1 x2 x3 x4 x5
        | ret => exact hK .ret _ _ _ _ _ x1 x2 x3 x4 x5
        | exit id' =>
          show if id' = id then Q .normal a' w' else Q (.exit id') a' w'
          simp only at x5
          by_cases hid : id' = id
          · rw [if_pos hid]; rw [if_pos (by simpa using hid)] at x5; exact hK .normal _ _ _ _ _ x1 x2 x3 x4 x5
          · rw [if_neg hid]; rw [if_neg (by simpa using hid)] at x5; exact hK (.exit id') _ _ _ _ _ x1 x2 x3 x4 x5
      | cond c x y =>
        simp only [run] at hh
        cases hc : σ.cell c with
        | none => rw [hc] at hh; exact hh.elim
        | some cc =>
          rw [hc] at hh
          cases cc with
          | bool t =>
            simp only at hh
            obtain ⟨_, _, hv⟩ := hR.cell hc
            obtain ⟨t1, t2⟩ := hR.truth (x := t)
            cases ht : truth σ t with
            | bad => rw [ht] at hh; exact hh.elim
            | yes =>
              rw [ht] at hh
              exact wp_cond_true (by rw [hv]; simp [t1 ht]) (ih (.code x) _ _ _ _ _ _ _ _ hR hl hh hK)
            | no =>
              rw [ht] at hh
              exact wp_cond_false (by rw [hv]; simp [t2 ht]) (ih (.code y) _ _ _ _ _ _ _ _ hR hl hh hK)
            | need v =>
              rw [ht] at hh
              simp only at hh
              have := truth_need ht
              subst this
              split at hh
              · rename_i hlt
                rcases knows hR hh hlt with ⟨h1, h2, h3⟩ | ⟨h1, h2, h3⟩
                · exact wp_cond_true (by rw [hv]; simp [A.ev, h3]) (ih (.code x) _ _ _ _ _ _ _ _ h1 hl h2 hK)
                · exact wp_cond_false (by rw [hv]; simp [A.ev, h3]) (ih (.code y) _ _ _ _ _ _ _ _ h1 hl h2 hK)
              · exact hh.elim
          | _ => exact hh.elim
      | region id ops draw =>
        simp only [run] at hh
        cases draw with
        | false => exact wp_region_list (ih (.ops ops ops.toList) _ _ _ _ _ _ _ _ hR hl hh hK)
        | true =>
          simp only [if_true] at hh
          split at hh
          · rename_i q htl
            split at hh
            · rename_i hd
              refine draw_tail hm hT hR htl hd hh (fun m' a' w' σ0 σ' h1 h2 h3 h4 h5 h6 => by
                split at h6
                case isFalse => exact h6.elim
                have hr := dropT_rep q.1.dst.toList h2
                obtain ⟨s1, s2, s3, s4, s5, s6⟩ := dropT_same q.1.dst.toList σ0
                have hdp : dropT σ' q.1.dst.toList = dropT σ0 q.1.dst.toList := by rw [← h3]; exact dropT_put σ0 _ _
                rw [hdp] at h6
                have hal : (dropT σ0 q.1.dst.toList).al = σ0.al := by funext i; unfold St.al; rw [s2]
                have hlv : σ0.lvl = σ'.lvl := by rw [← h3]; exact (put_same _ _ _).2.2.2.2.1.symm
                exact ih (.ops ops [q.1]) _ _ _ _ _ _ _ _ hr (by rw [s5, hlv, h5]; exact hl) h6 fun e σ'' m'' a'' w'' goal'' y1 y2 y3 y4 y5 => hK e σ'' m'' a'' w'' goal'' y1 y2 (h1.trans (by rw [s1, hal] at y3; exact y3)) y4 y5) (fun σ' E h => by split at h <;> first | assumption | exact h.elim)
            · exact hh.elim
          split at hh
          · rename_i hd
            refine draw_ok hm hT hR hd hh (fun m' a' w' σ' h1 h2 h3 h4 => by
              split at h4
              case isFalse => exact h4.elim
              exact hK .normal _ _ _ _ _ (GExt.refl _) (h3.trans hl) h1 h2 h4) (fun σ' E h => by split at h <;> first | assumption | exact h.elim)
          · exact hh.elim
      | loop c =>
        simp only [run] at hh
        cases hf : findAnn LA (Code.firstPos c) with
        | none =>
          rw [hf] at hh
          exact wp_loop_rounds n (ih (.rounds c) _ _ _ _ _ _ _ _ hR hl hh hK)
        | some ann =>
          rw [hf] at hh
          simp only at hh
          split at hh
          · exact hh.elim
          · rename_i d hd
            split at hh
            · rename_i ha
              refine loop_ok hR hl hd ha rfl hh (fun m' a' w' goal' Q' y1 y2 y3 y4 => ih (.code c) _ _ _ _ _ _ _ _ y1 y2 y3 y4) hK
            · exact hh.elim
      | _ => exact hh.elim
end
end Go.Sx

/- The engine Sx, part AA: a contract from a run. -/
namespace Go.Sx
open Go Go.RowKit

def okSh : Sh → Bool
  | .one l => okL l
  | .agg ls => ls.all okL
  | .ptr ls => ls.all okL && !ls.isEmpty
def ptrOf : Value → Nat × Nat
  | .pointer (some p) => (p.block, p.off)
  | _ => (0, 0)
def ptrs : List Sh → List Value → List (Nat × Nat)
  | .ptr _ :: ss, v :: vs => ptrOf v :: ptrs ss vs
  | _ :: ss, _ :: vs => ptrs ss vs
  | _, _ => []
section
variable {P : Program} {T : List K} {LA : List Ann} {w : World}
theorem lvals_ne : ∀ (ls : List L) (xs : List Int), ls.all okL = true → ls ≠ [] → lhas ls xs → lvals ls xs ≠ []
  | [], _, _, h, _ => absurd rfl h
  | .cst c :: ls, _, h, _, _ => by simp [lvals]
  | .int k :: ls, [], _, _, h => h.elim
  | .bool :: ls, [], _, _, h => h.elim
  | .num :: ls, [], _, _, h => h.elim
  | .int k :: ls, x :: xs, _, _, _ => by simp [lvals]
  | .bool :: ls, x :: xs, _, _, _ => by simp [lvals]
  | .num :: ls, x :: xs, _, _, _ => by simp [lvals, limbs]
theorem cell_lt {p : Addr} {v : Value} (h : w.cell? p = some v) : p.block < w.heap.size := by
  unfold World.cell? at h
  cases hb : w.heap[p.block]? with
  | none => rw [hb] at h; cases h
  | some b => exact (Array.getElem?_eq_some_iff.1 hb).1
theorem in_ok : ∀ (ins : List Sh) (xs : List Int) (args : List Value) (nn id : Nat), ins.all okSh = true → insRel w ins xs args → ∀ (m : M) (nv : Nat) (al : Nat → Bool), (∀ (i : Nat) x, xs[i]? = some x → m.env (nn + i) = x) → nn + icount ins ≤ nv →
    (∀ (j : Nat) p, (ptrs ins args)[j]? = some p → m.rho (id + j) = p) → (∀ j, j < (inSh nn id ins).2.length → al (id + j) = true) →
    VRels m nv al (inSh nn id ins).1 args ∧ ∀ (j : Nat) b, (inSh nn id ins).2[j]? = some (some b) → b.own = false ∧ (m.rho (id + j)).1 < w.heap.size ∧ ∀ (i : Nat) c, b.cells[i]? = some c → ∃ v, w.cell? (m.at (id + j) i) = some v ∧ c.rel m nv al v := by
  intro ins
  induction ins with
  | nil => intro xs args nn id _ h m nv al _ _ _ _; obtain ⟨_, rfl⟩ := h; exact ⟨trivial, by simp [inSh]⟩
  | cons s ss ih =>
    intro xs args nn id hok h m nv al he hnv hrho hal
    cases args with
    | nil => exact h.elim
    | cons u args =>
      obtain ⟨h1, h2, h3⟩ := h
      simp only [List.all_cons, Bool.and_eq_true] at hok
      obtain ⟨ho, hok⟩ := hok
      have het : ∀ (i : Nat) x, (xs.take (lcount s.leaves))[i]? = some x → m.env (nn + i) = x := fun i x hx => he i x (take_get hx)
      have hed : ∀ (i : Nat) x, (xs.drop (lcount s.leaves))[i]? = some x → m.env (nn + lcount s.leaves + i) = x := fun i x hx => by
        rw [List.getElem?_drop] at hx
        have := he _ x hx
        rwa [← Nat.add_assoc] at this
      have hnv1 : nn + lcount s.leaves ≤ nv := by simp only [icount] at hnv; omega
      have hnv2 : nn + lcount s.leaves + icount ss ≤ nv := by simp only [icount] at hnv; omega
      cases s with
      | one l =>
        obtain ⟨r1, r2⟩ := ih _ args (nn + lcount [l]) id hok h3 m nv al hed hnv2 hrho hal
        refine ⟨⟨?_, r1⟩, r2⟩
        have := in_rel (m := m) (nv := nv) (al := al) [l] nn _ (by simpa [okSh] using ho) h1 het hnv1
        have h2' : [u] = lvals [l] (xs.take (lcount [l])) := h2
        rw [Sh.leaves] at this
        rw [← h2'] at this
        cases hin : inLs nn [l] with
        | nil => rw [hin] at this; exact this.elim
        | cons c cs => rw [hin] at this; exact this.1
      | agg ls =>
        obtain ⟨r1, r2⟩ := ih _ args (nn + lcount ls) id hok h3 m nv al hed hnv2 hrho hal
        refine ⟨⟨?_, r1⟩, r2⟩
        exact ⟨_, h2, in_rel (m := m) (nv := nv) (al := al) ls nn _ (by simpa [okSh] using ho) h1 het hnv1⟩
      | ptr ls =>
        obtain ⟨b, off, rfl, h4⟩ := h2
        simp only [okSh, Bool.and_eq_true] at ho
        have hls : ls ≠ [] := by have := ho.2; cases ls <;> simp_all
        obtain ⟨r1, r2⟩ := ih _ args (nn + lcount ls) (id + 1) hok h3 m nv al hed hnv2 (fun j p hp => by
          have := hrho (j + 1) p (by simpa [ptrs] using hp)
          rwa [show id + (j + 1) = id + 1 + j by omega] at this) (fun j hj => by
          have := hal (j + 1) (by simp [inSh]; exact hj)
          rwa [show id + (j + 1) = id + 1 + j by omega] at this)
        have hr0 : m.rho id = (b, off) := by simpa [ptrOf] using hrho 0 (b, off) (by simp [ptrs, ptrOf])
        have ha0 : al id = true := by simpa using hal 0 (by simp [inSh])
        refine ⟨⟨⟨ha0, by simp [M.at, hr0]⟩, r1⟩, fun j bx hj => ?_⟩
        cases j with
        | zero =>
          simp [inSh] at hj
          subst hj
          have hin := in_rel (m := m) (nv := nv) (al := al) ls nn _ ho.1 h1 het hnv1
          refine ⟨rfl, ?_, fun i c hc => ?_⟩
          · simp only [Nat.add_zero, hr0]
            cases hlv : lvals ls (xs.take (lcount ls)) with
            | nil => exact absurd hlv (lvals_ne ls _ ho.1 hls h1)
            | cons v vs => exact cell_lt (h4 0 v (by rw [Sh.leaves, hlv]; rfl))
          · obtain ⟨v, hv, hr⟩ := hin.get i c hc
            exact ⟨v, by simp only [Nat.add_zero, M.at, hr0]; exact h4 i v hv, hr⟩
        | succ j =>
          have := r2 j bx (by simpa [inSh] using hj)
          rwa [show id + 1 + j = id + (j + 1) by omega] at this
theorem takeOuts_ok {w0 : World} {σ : St} {a : Act} : ∀ (os : List Oh) (vs : List V) (nn : Nat) (ds : Defs) (as : List A), takeOuts σ nn os vs = some (ds, as) → ∀ {m : M}, Rep w0 m σ a w → ∀ {us : List Value}, VRels m σ.nv σ.al vs us →
    (σ.nv ≤ nn → GenOk T m.env nn ds ∧ (∀ a ∈ as, a.ok (nn + ds.length))) ∧
    ∀ e', (∀ i, i < σ.nv → e' i = m.env i) → Told T e' nn ds → outsRel w0.heap.size w os (as.map (·.ev e')) us := by
  intro os
  induction os with
  | nil =>
    intro vs nn ds as h m hrep us hu
    cases vs with
    | cons v vs => cases h
    | nil =>
      simp [takeOuts] at h
      obtain ⟨rfl, rfl⟩ := h
      cases us with
      | cons u us => exact hu.elim
      | nil => exact ⟨fun _ => ⟨trivial, by simp⟩, fun _ _ _ => ⟨rfl, rfl⟩⟩
  | cons s os ih =>
    intro vs nn ds as h m hrep us hu
    cases vs with
    | nil => cases h
    | cons v vs =>
      cases us with
      | nil => exact hu.elim
      | cons u us =>
        obtain ⟨hu1, hu2⟩ := hu
        simp only [takeOuts] at h
        cases hd : takeOh σ nn s v with
        | none => rw [hd] at h; cases h
        | some d =>
          rw [hd] at h
          simp only at h
          cases hr : takeOuts σ (nn + d.1.length) os vs with
          | none => rw [hr] at h; cases h
          | some r =>
            rw [hr] at h
            simp only [Option.some.injEq, Prod.mk.injEq] at h
            obtain ⟨rfl, rfl⟩ := h
            obtain ⟨d1, d2⟩ := d
            obtain ⟨r1, r2⟩ := r
            simp only at hr ⊢
            obtain ⟨i1, i2⟩ := ih vs (nn + d1.length) r1 r2 hr hrep hu2
            -- the first one
            have one : (σ.nv ≤ nn → GenOk T m.env nn d1 ∧ (∀ a ∈ d2, a.ok (nn + d1.length))) ∧ d2.length = lcount s.leaves ∧
                ∀ e', (∀ i, i < σ.nv → e' i = m.env i) → Told T e' nn d1 → lhas s.leaves (d2.map (·.ev e')) ∧ s.rel w0.heap.size w (d2.map (·.ev e')) u := by
              unfold takeOh at hd
              split at hd
              · rename_i l c
                obtain ⟨g1, g3, g4⟩ := takeLs_ok (T := T) _ _ _ _ _ hd m σ.nv [u] ⟨hu1, trivial⟩
                exact ⟨g1, g3, fun e' he ht => by obtain ⟨g5, g6⟩ := g4 e' he ht; exact ⟨g6, g5.symm⟩⟩
              · rename_i ls cs
                obtain ⟨vs', rfl, hr'⟩ := hu1
                obtain ⟨g1, g3, g4⟩ := takeLs_ok (T := T) _ _ _ _ _ hd m σ.nv vs' hr'
                exact ⟨g1, g3, fun e' he ht => by obtain ⟨g5, g6⟩ := g4 e' he ht; exact ⟨g6, by simp only [Oh.rel]; rw [g5]⟩⟩
              · rename_i e ls id
                split at hd
                · rename_i b hb
                  split at hd
                  · rename_i hc
                    simp only [Bool.and_eq_true, beq_iff_eq] at hc
                    have hb' : σ.boxes[id]? = some (some b) := by
                      rw [St.box_def] at hb
                      split at hb
                      · cases hb; assumption
                      · cases hb
                    obtain ⟨k1, k2, vs', k3, k4⟩ := hrep.own id b hb' hc.1
                    obtain ⟨g1, g3, g4⟩ := takeLs_ok (T := T) _ _ _ _ _ hd m σ.nv vs' k4
                    refine ⟨g1, g3, fun e' he ht => ?_⟩
                    obtain ⟨g5, g6⟩ := g4 e' he ht
                    refine ⟨g6, (m.rho id).1, k2, ?_, ?_⟩
                    · rw [hu1.2]; simp [M.at, k1]
                    · rw [g5, k3, hc.2]
                  · cases hd
                · cases hd
              · cases hd
            obtain ⟨o1, o2, o3⟩ := one
            refine ⟨fun hn => ⟨gen_append _ _ _ _ (o1 hn).1 fun e1 he1 _ => ?_, ?_⟩, fun e2 he2 ht2 => ?_⟩
            · have hx : MExt m σ.nv σ.al { m with env := e1 } σ.nv σ.al := ⟨fun i hi => he1 i (by omega), fun _ _ => rfl, rfl, fun _ _ => rfl, Nat.le_refl _, fun _ h => h⟩
              exact ((ih _ _ _ _ hr (hrep.names e1 (fun i hi => he1 i (by omega)) σ.nv (Nat.le_refl _)) (hu2.mono hx)).1 (by show σ.nv ≤ _; omega)).1
            · intro x hx
              rcases List.mem_append.1 hx with hx | hx
              · exact A.ok_mono ((o1 hn).2 x hx) (by simp)
              · exact A.ok_mono ((i1 (by omega)).2 x hx) (by simp; omega)
            · rw [Told.append] at ht2
              obtain ⟨h1, h2⟩ := o3 e2 he2 ht2.1
              have h3 := i2 e2 he2 ht2.2
              have e1 : (List.map (fun x => A.ev e2 x) d2 ++ List.map (fun x => A.ev e2 x) r2).take (lcount s.leaves) = List.map (fun x => A.ev e2 x) d2 := by
                rw [List.take_append_of_le_length (by simp [o2]), List.take_of_length_le (by simp [o2])]
              have e2' : (List.map (fun x => A.ev e2 x) d2 ++ List.map (fun x => A.ev e2 x) r2).drop (lcount s.leaves) = List.map (fun x => A.ev e2 x) r2 := by
                rw [List.drop_append_of_le_length (by simp [o2]), List.drop_of_length_le (by simp [o2])]; rfl
              simp only [List.map_append, outsRel, e1, e2']
              exact ⟨h1, h2, h3⟩
theorem ptrs_length (w : World) : ∀ (ins : List Sh) (xs : List Int) (args : List Value) (nn id : Nat), insRel w ins xs args → (inSh nn id ins).2.length = (ptrs ins args).length
  | [], _, args, nn, id, h => by cases args <;> rfl
  | s :: ss, xs, [], nn, id, h => h.elim
  | s :: ss, xs, u :: args, nn, id, h => by
    cases s with
    | one l => exact ptrs_length w ss _ args _ _ h.2.2
    | agg l => exact ptrs_length w ss _ args _ _ h.2.2
    | ptr l => simp only [inSh, ptrs, List.length_cons]; rw [ptrs_length w ss _ args _ _ h.2.2]
theorem inSh_some : ∀ (ins : List Sh) (nn id : Nat) (j : Nat), j < (inSh nn id ins).2.length → ∃ b, (inSh nn id ins).2[j]? = some (some b)
  | [], _, _, _, h => by simp [inSh] at h
  | s :: ss, nn, id, j, h => by
    cases s with
    | one l => exact inSh_some ss _ _ j h
    | agg l => exact inSh_some ss _ _ j h
    | ptr l =>
      cases j with
      | zero => exact ⟨_, rfl⟩
      | succ j => simpa [inSh] using inSh_some ss (nn + lcount l) (id + 1) j (by simpa [inSh] using h)
theorem inSh_len : ∀ (ins : List Sh) (nn id : Nat), (inSh nn id ins).1.length = ins.length
  | [], _, _ => rfl
  | s :: ss, nn, id => by cases s <;> simp only [inSh, List.length_cons, inSh_len ss]
def envOf (xs : List Int) : Nat → Int := fun i => xs.getD i 0
/-- **a contract from a run** -/
theorem ctr_of_run (hm : P.follows .mixedOrders = true) (hT : ∀ (g : Nat) κ, T[g]? = some κ → κ.ok P) {κ : K} {fn : Func} (fuel : Nat) (hf : P.funcs[κ.fn]? = some fn) (hn : (fn.name == "runtime.NumGoroutine") = false) (hext : κ.ext = false) (hok : κ.ins.all okSh = true)
    (hh : ∀ (w : World) (xs : List Int) (args : List Value), insRel w κ.ins xs args → κ.pre xs → (tree P T LA fuel fn κ.ins κ.outs).holds T ⟨fun ys => ys = κ.sem xs, []⟩ (envOf xs)) : κ.ok P := by
  intro w args xs hin hpre
  rw [hext]
  simp only [Bool.false_eq_true, if_false]
  have h1 := hh w xs args hin hpre
  unfold tree at h1
  cases hb : fn.body with
  | none => rw [hb] at h1; exact h1.elim
  | some c =>
    rw [hb] at h1
    simp only at h1
    refine ⟨run_callFunc hf hn hb, calls_of_wp hf hb ?_⟩
    let m : M := { env := envOf xs, rho := fun id => (ptrs κ.ins args).getD id (0, 0), ext := fun _ => default }
    let σ := initS fn κ.ins
    have hal : ∀ j, j < (inSh 0 0 κ.ins).2.length → σ.al (0 + j) = true := fun j hj => by
      obtain ⟨b, hb⟩ := inSh_some κ.ins 0 0 j hj
      exact al_iff.2 ⟨b, by rw [Nat.zero_add]; exact hb⟩
    obtain ⟨v1, v2⟩ := in_ok κ.ins xs args 0 0 hok hin m σ.nv σ.al (fun i x hx => by show xs.getD (0 + i) 0 = x; rw [Nat.zero_add, List.getD_eq_getElem?_getD, hx]; rfl) (by show 0 + icount κ.ins ≤ icount κ.ins; omega)
      (fun j p hp => by show (ptrs κ.ins args).getD (0 + j) (0, 0) = p; rw [Nat.zero_add, List.getD_eq_getElem?_getD, hp]; rfl) hal
    have hbase : Rep w m { σ with tmps := [] } { tmps := #[], defers := [] } w := by
      refine ⟨rfl, rfl, fun i s hi => by simp at hi, Below.refl _ _, fun id b hb ho => ?_, fun id b hb ho => ?_, fun id id' b b' hb hb' ho _ _ => ?_, fun p hp => absurd hp (List.not_mem_nil), fun p hp => absurd hp (List.not_mem_nil), fun p hp => absurd hp (List.not_mem_nil), fun p hp => absurd hp (List.not_mem_nil), fun p hp => absurd hp (List.not_mem_nil)⟩
      · rw [(v2 id b hb).1] at ho; cases ho
      · have := v2 id b hb
        rw [Nat.zero_add] at this
        exact .inr ⟨this.2.1, this.2.2⟩
      · rw [(v2 id b hb).1] at ho; cases ho
    have hR : Rep w m σ { tmps := args.toArray ++ Array.replicate (fn.ntmps - args.toArray.size) undef, defers := [] } w := enter_rep hbase v1 fn.ntmps
    refine run_sound hm hT fuel (.code c) σ (fin P fn κ.outs) w m _ w _ _ hR rfl h1 fun e σ' m' a' w' goal' x1 x2 x3 x4 x5 => ?_
    have key : e = .normal ∨ e = .ret → bodyPost P fn (fun e w' => ∃ vs, e = .returned (retV vs) ∧ outsRel w.heap.size w' κ.outs (κ.sem xs) vs ∧ Below w.heap.size w w') (exitOf e) a' w' := by
      intro he
      have x6 : (match resS P σ' fn with | none => .bad 401 "" | some vs => match takeOuts σ' σ'.nv κ.outs vs with | none => .bad 402 "" | some r => letts σ'.nv r.1 (.ret r.2) : Tree).holds T goal' m'.env := by
        rcases he with rfl | rfl <;> exact x5
      cases hrs : resS P σ' fn with
      | none => rw [hrs] at x6; exact x6.elim
      | some vs =>
        rw [hrs] at x6
        simp only at x6
        cases hto : takeOuts σ' σ'.nv κ.outs vs with
        | none => rw [hto] at x6; exact x6.elim
        | some r =>
          rw [hto] at x6
          simp only at x6
          obtain ⟨r1, r2⟩ := r
          obtain ⟨us, u1, u2⟩ := res_ok x4 hrs
          obtain ⟨o1, o2⟩ := takeOuts_ok (T := T) _ _ _ _ _ hto x4 u2
          obtain ⟨e1, k1, k2, k3, k4⟩ := letts_holds _ _ _ x6 (o1 (Nat.le_refl _)).1
          have hout := o2 e1 (fun i hi => k1 i hi) k3
          have hg : r2.map (·.ev e1) = κ.sem xs := by
            have : goal'.goal (r2.map (·.ev e1)) := k4
            rw [x1.1] at this; exact this
          rw [hg] at hout
          have hd := x4.defers
          have := x4.below
          rcases he with rfl | rfl <;> exact ⟨hd, retV us, u1, us, rfl, hout, this⟩
    cases e with
    | normal => exact key (.inl rfl)
    | ret => exact key (.inr rfl)
    | exit id => exact x5.elim
end
end Go.Sx

/- The engine Sx, part AB: the tree read over one list of names. -/
namespace Go.Sx
open Go Go.RowKit

def seqE (e : Nat → Int) (n : Nat) : Nat → List Int
  | 0 => []
  | k + 1 => e n :: seqE e (n + 1) k
def Tree.says (T : List K) : Tree → Gl → (Nat → Int) → Prop
  | .ret as, g, e => g.goal (as.map (·.ev e))
  | .split n t f, g, e => (e n ≠ 0 → t.says T g e) ∧ (e n = 0 → f.says T g e)
  | .lett n kk d t, g, e => e n = d.ev T e → kk.has (e n) → t.says T g e
  | .req q as t, g, e => (match T[q]? with | some κ => κ.pre (as.map (·.ev e)) | none => False) ∧ t.says T g e
  | .nz a t, g, e => a.ev e ≠ 0 ∧ t.says T g e
  | .loop inits kks n0 t, g, e => ∃ (I : List Int → Prop) (μ : List Int → Nat), I (inits.map (·.ev e)) ∧
      ∀ e', (∀ i, i < n0 → e' i = e i) → kkHas kks (seqE e' n0 kks.length) → I (seqE e' n0 kks.length) → t.says T { g with stk := g.stk ++ [fun us => I us ∧ μ us < μ (seqE e' n0 kks.length)] } e'
  | .back lvl as, g, e => match g.stk[lvl]? with | some R => R (as.map (·.ev e)) | none => False
  | .bad _ _, _, _ => False
def A.okB (n : Nat) : A → Bool
  | .lit _ => true
  | .var k => decide (k < n)
  | .limb k _ => decide (k < n)
def D.okB (n : Nat) : D → Bool
  | .bin _ _ a b => a.okB n && b.okB n
  | .cmp _ a b => a.okB n && b.okB n
  | .conv _ a => a.okB n
  | .not a => a.okB n
  | .app _ _ as => as.all (A.okB n)
  | .join as => as.all (A.okB n)
  | .eqs l => l.all fun p => p.1.okB n && p.2.okB n
  | .sel i as => i.okB n && as.all (A.okB n)
  | .put i _ x y => i.okB n && x.okB n && y.okB n
  | .llen x => x.okB n
  | .lget x i => x.okB n && i.okB n
  | .lapp x as => x.okB n && as.all (A.okB n)
def wfT : Nat → Tree → Bool
  | nn, .ret as => as.all (A.okB nn)
  | nn, .split n t f => decide (n < nn) && wfT nn t && wfT nn f
  | nn, .lett n _ d t => decide (nn ≤ n) && d.okB nn && wfT (n + 1) t
  | nn, .req _ as t => as.all (A.okB nn) && wfT nn t
  | nn, .nz a t => a.okB nn && wfT nn t
  | nn, .loop inits kks n0 t => inits.all (A.okB nn) && decide (nn ≤ n0) && wfT (n0 + kks.length) t
  | nn, .back _ as => as.all (A.okB nn)
  | _, .bad _ _ => true
theorem A.okB_ok {n : Nat} {a : A} (h : a.okB n = true) : a.ok n := by
  cases a <;> simp [A.okB] at h <;> first | trivial | exact h
theorem A.okB_all {n : Nat} {as : List A} (h : as.all (A.okB n) = true) : ∀ a ∈ as, a.ok n := fun a ha => A.okB_ok (List.all_eq_true.1 h a ha)
theorem D.okB_ok {n : Nat} {d : D} (h : d.okB n = true) : d.ok n := by
  cases d <;> simp only [D.okB, Bool.and_eq_true] at h
  case bin => exact ⟨A.okB_ok h.1, A.okB_ok h.2⟩
  case cmp => exact ⟨A.okB_ok h.1, A.okB_ok h.2⟩
  case conv => exact A.okB_ok h
  case not => exact A.okB_ok h
  case app => exact A.okB_all h
  case join => exact A.okB_all h
  case sel => exact ⟨A.okB_ok h.1, A.okB_all h.2⟩
  case put => exact ⟨A.okB_ok h.1.1, A.okB_ok h.1.2, A.okB_ok h.2⟩
  case llen => exact A.okB_ok h
  case lget => exact ⟨A.okB_ok h.1, A.okB_ok h.2⟩
  case lapp => exact ⟨A.okB_ok h.1, A.okB_all h.2⟩
  case eqs => exact fun p hp => by have := List.all_eq_true.1 h p hp; rw [Bool.and_eq_true] at this; exact ⟨A.okB_ok this.1, A.okB_ok this.2⟩
theorem kkHas_len : ∀ {ks : List KK} {vs : List Int}, kkHas ks vs → vs.length = ks.length
  | [], [], _ => rfl
  | _ :: _, _ :: _, h => by simp [kkHas_len h.2]
  | [], _ :: _, h => h.elim
  | _ :: _, [], h => h.elim
theorem seqE_eq : ∀ (vs : List Int) (e : Nat → Int) (n : Nat), (∀ (i : Nat) x, vs[i]? = some x → e (n + i) = x) → seqE e n vs.length = vs
  | [], _, _, _ => rfl
  | v :: vs, e, n, h => by
    simp only [List.length_cons, seqE]
    rw [seqE_eq vs e (n + 1) fun i x hx => by have := h (i + 1) x (by simpa using hx); rwa [show n + 1 + i = n + (i + 1) by omega]]
    rw [show e n = v by simpa using h 0 v rfl]
theorem says_holds {T : List K} : ∀ (t : Tree) (nn : Nat) (g : Gl) (e : Nat → Int), wfT nn t = true → (∀ e', (∀ i, i < nn → e' i = e i) → t.says T g e') → t.holds T g e
  | .ret as, nn, g, e, _, h => h e fun _ _ => rfl
  | .bad _ _, nn, g, e, _, h => h e fun _ _ => rfl
  | .back _ _, nn, g, e, _, h => h e fun _ _ => rfl
  | .split n t f, nn, g, e, hw, h => by
    simp only [wfT, Bool.and_eq_true, decide_eq_true_eq] at hw
    obtain ⟨⟨h1, h2⟩, h3⟩ := hw
    exact ⟨fun hn => says_holds t nn g e h2 fun e' he' => (h e' he').1 (by rw [he' n h1]; exact hn), fun hn => says_holds f nn g e h3 fun e' he' => (h e' he').2 (by rw [he' n h1]; exact hn)⟩
  | .lett n kk d t, nn, g, e, hw, h => by
    simp only [wfT, Bool.and_eq_true, decide_eq_true_eq] at hw
    obtain ⟨⟨h1, h2⟩, h3⟩ := hw
    intro v hv hk
    refine says_holds t (n + 1) g _ h3 fun e' he' => ?_
    have low : ∀ i, i < nn → e' i = e i := fun i hi => by rw [he' i (by omega)]; simp [upd]; omega
    have hn : e' n = v := by rw [he' n (by omega)]; simp [upd]
    refine h e' low ?_ (by rw [hn]; exact hk)
    rw [hn, hv, D.ev_congr (D.okB_ok h2) low]
  | .req q as t, nn, g, e, hw, h => by
    simp only [wfT, Bool.and_eq_true] at hw
    exact ⟨(h e fun _ _ => rfl).1, says_holds t nn g e hw.2 fun e' he' => (h e' he').2⟩
  | .nz a t, nn, g, e, hw, h => by
    simp only [wfT, Bool.and_eq_true] at hw
    exact ⟨(h e fun _ _ => rfl).1, says_holds t nn g e hw.2 fun e' he' => (h e' he').2⟩
  | .loop inits kks n0 t, nn, g, e, hw, h => by
    simp only [wfT, Bool.and_eq_true, decide_eq_true_eq] at hw
    obtain ⟨⟨h1, h2⟩, h3⟩ := hw
    obtain ⟨I, μ, h4, h5⟩ := h e fun _ _ => rfl
    refine ⟨I, μ, h4, fun vs hk hI => ?_⟩
    have hl := kkHas_len hk
    refine says_holds t (n0 + kks.length) _ _ h3 fun e' he' => ?_
    have hs : seqE e' n0 kks.length = vs := by
      rw [← hl]
      refine seqE_eq vs e' n0 fun i x hx => ?_
      have hi := (List.getElem?_eq_some_iff.1 hx).1
      rw [he' _ (by omega)]
      exact updL_get _ _ _ _ _ hx
    have := h5 e' (fun i hi => by rw [he' i (by omega)]; exact updL_low _ _ _ _ hi) (by rw [hs]; exact hk) (by rw [hs]; exact hI)
    rw [hs] at this
    exact this
def ikks : List Sh → List KK
  | [] => []
  | s :: ss => kksOf s.leaves ++ ikks ss
theorem okSh_leaves {s : Sh} (h : okSh s = true) : s.leaves.all okL = true := by
  cases s with
  | one l => simpa [okSh, Sh.leaves] using h
  | agg ls => exact h
  | ptr ls => simp only [okSh, Bool.and_eq_true] at h; exact h.1
theorem insRel_kk {w : World} : ∀ (ins : List Sh) (xs : List Int) (args : List Value), insRel w ins xs args → kkHas (ikks ins) xs
  | [], xs, args, h => by rw [h.1]; trivial
  | s :: ss, xs, [], h => h.elim
  | s :: ss, xs, u :: args, h => by
    have := kk_append (kk_of_lhas _ _ h.1) (insRel_kk ss _ _ h.2.2)
    rwa [List.take_append_drop] at this
theorem ikks_len : ∀ (ins : List Sh), ins.all okSh = true → (ikks ins).length = icount ins
  | [], _ => rfl
  | s :: ss, h => by
    simp only [List.all_cons, Bool.and_eq_true] at h
    simp only [ikks, icount, List.length_append, ikks_len ss h.2]
    congr 1
    have := okSh_leaves h.1
    generalize s.leaves = ls at this
    induction ls with
    | nil => rfl
    | cons l ls ih =>
      simp only [List.all_cons, Bool.and_eq_true] at this
      cases l with
      | cst c => simp only [kksOf, ih this.2, lcount, L.n]; omega
      | _ => simp only [kksOf, List.length_cons, ih this.2, lcount, L.n]; omega
def AllOk (P : Program) : List K → Prop
  | [] => True
  | κ :: T => κ.ok P ∧ AllOk P T
theorem AllOk.get {P : Program} : ∀ {T : List K}, AllOk P T → ∀ (g : Nat) κ, T[g]? = some κ → κ.ok P
  | [], _, g, κ, h => by simp at h
  | κ' :: T, hT, g, κ, h => by
    cases g with
    | zero => simp at h; subst h; exact hT.1
    | succ g => exact AllOk.get hT.2 g κ (by simpa using h)
/-- **a contract from what the tree says** -/
theorem ctr_says {P : Program} {T : List K} {LA : List Ann} (hm : P.follows .mixedOrders = true) (hT : AllOk P T) {κ : K} {fn : Func} (fuel : Nat) (hf : P.funcs[κ.fn]? = some fn) (hn : (fn.name == "runtime.NumGoroutine") = false) (hext : κ.ext = false) (hok : κ.ins.all okSh = true)
    {t : Tree} (ht : tree P T LA fuel fn κ.ins κ.outs = t) (hw : wfT (icount κ.ins) t = true)
    (hh : ∀ e : Nat → Int, kkHas (ikks κ.ins) (seqE e 0 (icount κ.ins)) → κ.pre (seqE e 0 (icount κ.ins)) → t.says T ⟨fun ys => ys = κ.sem (seqE e 0 (icount κ.ins)), []⟩ e) : κ.ok P := by
  refine ctr_of_run (LA := LA) hm hT.get fuel hf hn hext hok fun w xs args hin hpre => ?_
  rw [ht]
  refine says_holds t _ _ _ hw fun e he => ?_
  have hkk := insRel_kk _ _ _ hin
  have hl : xs.length = icount κ.ins := by rw [kkHas_len hkk, ikks_len _ hok]
  have hs : seqE e 0 (icount κ.ins) = xs := by
    rw [← hl]
    refine seqE_eq xs e 0 fun i x hx => ?_
    have hi := (List.getElem?_eq_some_iff.1 hx).1
    rw [Nat.zero_add, he i (by omega)]
    simp [envOf, hx]
  have := hh e (by rw [hs]; exact hkk) (by rw [hs]; exact hpre)
  rw [hs] at this
  exact this
end Go.Sx
