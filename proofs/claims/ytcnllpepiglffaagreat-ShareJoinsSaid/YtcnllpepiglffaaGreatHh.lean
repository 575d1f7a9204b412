/- A tree told in pieces: a great function's equation is proved piece by piece. -/
import Derived.Test.YtcnllpepiglffaaGreatGa
import Derived.Test.YtcnllpepiglffaaGreatHg
set_option linter.unusedVariables false
set_option linter.unusedSimpArgs false
namespace Go.Sx
open Go
inductive Cu where
  | all
  | stop
  | sp (a b : Cu)
/-- a tree whose pieces are taken out -/
noncomputable def cut (T : Tree) : Cu → Tree :=
  Tree.rec (motive := fun _ => Cu → Tree)
    (fun xs _ => .ret xs)
    (fun n t f iht ihf c => Cu.rec (motive := fun _ => Tree) (.split n t f) (.bad 0 "") (fun a b _ _ => .split n (iht a) (ihf b)) c)
    (fun n kk d _ ih c => .lett n kk d (ih c))
    (fun g xs _ ih c => .req g xs (ih c))
    (fun a _ ih c => .nz a (ih c))
    (fun ins kks n0 t _ c => Cu.rec (motive := fun _ => Tree) (.loop ins kks n0 t) (.bad 0 "") (fun _ _ _ _ => .loop ins kks n0 t) c)
    (fun l xs _ => .back l xs)
    (fun w p _ => .bad w p) T
noncomputable def skip (T : Tree) : Tree :=
  Tree.rec (motive := fun _ => Tree) (fun xs => .ret xs) (fun n t f _ _ => .split n t f) (fun _ _ _ _ ih => ih) (fun _ _ _ ih => ih) (fun _ _ ih => ih)
    (fun ins kks n0 t _ => .loop ins kks n0 t) (fun l xs => .back l xs) (fun w p => .bad w p) T
noncomputable def lft (T : Tree) : Tree :=
  Tree.rec (motive := fun _ => Tree) (fun xs => .ret xs) (fun _ t _ _ _ => t) (fun _ _ _ _ ih => ih) (fun _ _ _ ih => ih) (fun _ _ ih => ih)
    (fun ins kks n0 t _ => .loop ins kks n0 t) (fun l xs => .back l xs) (fun w p => .bad w p) T
noncomputable def rgt (T : Tree) : Tree :=
  Tree.rec (motive := fun _ => Tree) (fun xs => .ret xs) (fun _ _ f _ _ => f) (fun _ _ _ _ ih => ih) (fun _ _ _ ih => ih) (fun _ _ ih => ih)
    (fun ins kks n0 t _ => .loop ins kks n0 t) (fun l xs => .back l xs) (fun w p => .bad w p) T
def agree : Cu → Tree → Tree → Prop
  | .all, _, _ => True
  | .stop, T, t => skip T = skip t
  | .sp a b, T, t => agree a (lft T) (lft t) ∧ agree b (rgt T) (rgt t)
theorem cut_all : ∀ T : Tree, cut T .all = T := by
  intro T
  induction T with
  | ret xs => rfl
  | split n t f _ _ => rfl
  | lett n kk d t ih => show Tree.lett n kk d (cut t .all) = _; rw [ih]
  | req g xs t ih => show Tree.req g xs (cut t .all) = _; rw [ih]
  | nz a t ih => show Tree.nz a (cut t .all) = _; rw [ih]
  | loop ins kks n0 t _ => rfl
  | back l xs => rfl
  | bad w p => rfl
theorem agree_lett {n kk d n' kk' d'} {T t : Tree} (c : Cu) : agree c (.lett n kk d T) (.lett n' kk' d' t) = agree c T t := by cases c <;> rfl
theorem agree_req {g xs g' xs'} {T t : Tree} (c : Cu) : agree c (.req g xs T) (.req g' xs' t) = agree c T t := by cases c <;> rfl
theorem agree_nz {a a'} {T t : Tree} (c : Cu) : agree c (.nz a T) (.nz a' t) = agree c T t := by cases c <;> rfl
theorem cut_eq (T : Tree) : ∀ (c : Cu) (t : Tree), cut T c = cut t c → agree c T t → T = t := by
  induction T with
  | ret xs =>
    intro c t h _
    cases t <;> (try cases c) <;> simp_all [cut]
  | split n t1 t2 ih1 ih2 =>
    intro c t h ha
    cases c with
    | all => rwa [cut_all, cut_all] at h
    | stop =>
      cases t with
      | split n' t1' t2' => exact ha
      | loop ins kks n0 t => exact ha
      | bad w p => exact ha
      | _ => simp [cut] at h
    | sp a b =>
      cases t with
      | split n' t1' t2' =>
        have h' : Tree.split n (cut t1 a) (cut t2 b) = Tree.split n' (cut t1' a) (cut t2' b) := h
        injection h' with h1 h2 h3
        rw [h1, ih1 a t1' h2 ha.1, ih2 b t2' h3 ha.2]
      | _ => simp [cut] at h
  | lett n kk d T ih =>
    intro c t h ha
    cases t with
    | lett n' kk' d' t' =>
      have h' : Tree.lett n kk d (cut T c) = Tree.lett n' kk' d' (cut t' c) := h
      injection h' with h1 h2 h3 h4
      rw [agree_lett] at ha
      rw [h1, h2, h3, ih c t' h4 ha]
    | _ => (try cases c) <;> simp [cut] at h
  | req g xs T ih =>
    intro c t h ha
    cases t with
    | req g' xs' t' =>
      have h' : Tree.req g xs (cut T c) = Tree.req g' xs' (cut t' c) := h
      injection h' with h1 h2 h3
      rw [agree_req] at ha
      rw [h1, h2, ih c t' h3 ha]
    | _ => (try cases c) <;> simp [cut] at h
  | nz a T ih =>
    intro c t h ha
    cases t with
    | nz a' t' =>
      have h' : Tree.nz a (cut T c) = Tree.nz a' (cut t' c) := h
      injection h' with h1 h2
      rw [agree_nz] at ha
      rw [h1, ih c t' h2 ha]
    | _ => (try cases c) <;> simp [cut] at h
  | loop ins kks n0 T _ =>
    intro c t h ha
    cases c with
    | all => rwa [cut_all, cut_all] at h
    | stop =>
      cases t with
      | split n' t1' t2' => exact ha
      | loop ins kks n0 t => exact ha
      | bad w p => exact ha
      | _ => simp [cut] at h
    | sp a b => cases t <;> simp_all [cut]
  | back l xs =>
    intro c t h _
    cases t <;> (try cases c) <;> simp_all [cut]
  | bad w p =>
    intro c t h ha
    cases c with
    | all => rwa [cut_all, cut_all] at h
    | stop =>
      cases t with
      | split n' t1' t2' => exact ha
      | loop ins kks n0 t => exact ha
      | bad w' p' => exact ha
      | _ => simp [cut] at h
    | sp a b => cases t <;> simp_all [cut]
end Go.Sx

/- Laws: ShareJoins: its tree, and what its calls tell. (The walk over the tree is printed by gjoins.py.) -/
namespace Go.Sx
open Go Go.RowKit
set_option linter.unusedVariables false
set_option linter.unusedSimpArgs false
set_option maxRecDepth 100000
theorem lsub_lentN {y z x n : Int} (h : y = enc (((dec x).take n.toNat).drop (0 : Int).toNat)) (hx : x = enc (lentL (dec z))) (hn : n = ((dec z).length : Int)) : dec y = dec z := by
  rw [h, dec_enc, hx, dec_enc, hn]
  simp [lentL]
theorem lsub_lentI {y z x n : Int} (h : y = enc (((dec x).take n.toNat).drop (0 : Int).toNat)) (hx : x = enc (lentLI (dec z))) (hn : n = ((dec z).length : Int)) : dec y = dec z := by
  rw [h, dec_enc, hx, dec_enc, hn]
  simp [lentLI]
theorem keptN_yes {y x n z : Int} (h : y = bi (n = ((dec z).length : Int) ∧ dec x = lentL (dec z))) (hx : x = enc (lentL (dec z))) (hn : n = ((dec z).length : Int)) : y = 1 := by
  rw [h, bi_1 ⟨hn, by rw [hx, dec_enc]⟩]
theorem keptI_yes {y x n z : Int} (h : y = bi (n = ((dec z).length : Int) ∧ dec x = lentLI (dec z))) (hx : x = enc (lentLI (dec z))) (hn : n = ((dec z).length : Int)) : y = 1 := by
  rw [h, bi_1 ⟨hn, by rw [hx, dec_enc]⟩]
theorem large_cases {v n : Int} (h : v = bi ((12 < n ∧ n ≤ 64) ∨ 70 < n)) : (v = 1 ∧ ((12 < n ∧ n ≤ 64) ∨ 70 < n)) ∨ (v = 0 ∧ ¬ ((12 < n ∧ n ≤ 64) ∨ 70 < n)) := by rw [h]; exact bi_cases _
theorem slagr_0 {y s x x' a : Int} (h : y = (semSLagr [s, x, a]).getD 0 0) (hx : dec x = dec x') : (errLa s (dec x') a = 0 ∧ y = enc (lagV (rOf s) (dec x') a)) ∨ (errLa s (dec x') a ≠ 0 ∧ y = 0) := by
  rw [h, semSLagr, hx]; split
  · exact .inl ⟨by assumption, rfl⟩
  · exact .inr ⟨by assumption, rfl⟩
theorem slagr_1 {y s x x' a : Int} (h : y = (semSLagr [s, x, a]).getD 1 0) (hx : dec x = dec x') : y = errLa s (dec x') a := by
  rw [h, semSLagr, hx]; split
  · rename_i h0; rw [h0]; rfl
  · rfl
theorem sjoin_0 {y s x x' l l' a : Int} (h : y = (semSJoin [s, x, l, a]).getD 0 0) (hx : dec x = dec x') (hl : dec l = dec l') : (errSh s (dec x') (dec l') a = 0 ∧ y = joinV (rOf s) (dec x') (dec l') a) ∨ (errSh s (dec x') (dec l') a ≠ 0 ∧ y = 0) := by
  rw [h, semSJoin, hx, hl]; split
  · exact .inl ⟨by assumption, rfl⟩
  · exact .inr ⟨by assumption, rfl⟩
theorem sjoin_1 {y s x x' l l' a : Int} (h : y = (semSJoin [s, x, l, a]).getD 1 0) (hx : dec x = dec x') (hl : dec l = dec l') : y = errSh s (dec x') (dec l') a := by
  rw [h, semSJoin, hx, hl]; split
  · rename_i h0; rw [h0]; rfl
  · rfl
theorem sfit_0 {y s x x' l l' d : Int} (h : y = (semSFit [s, x, l, d]).getD 0 0) (hx : dec x = dec x') (hl : dec l = dec l') : (errSh s (dec x') (dec l') 0 = 0 ∧ 0 ≤ d ∧ d ≤ 1000 ∧ y = fitB s (dec x') (dec l') d) ∨ ((errSh s (dec x') (dec l') 0 ≠ 0 ∨ d < 0 ∨ 1000 < d) ∧ y = 0) := by
  rw [h, semSFit, hx, hl]; split
  · exact .inr ⟨.inl (by assumption), rfl⟩
  · split
    · exact .inr ⟨.inr (by assumption), rfl⟩
    · exact .inl ⟨by omega, by omega, by omega, rfl⟩
theorem sfit_1 {y s x x' l l' d : Int} (h : y = (semSFit [s, x, l, d]).getD 1 0) (hx : dec x = dec x') (hl : dec l = dec l') : (errSh s (dec x') (dec l') 0 ≠ 0 ∧ y = errSh s (dec x') (dec l') 0) ∨ (errSh s (dec x') (dec l') 0 = 0 ∧ (d < 0 ∨ 1000 < d) ∧ y = 2) ∨ (errSh s (dec x') (dec l') 0 = 0 ∧ 0 ≤ d ∧ d ≤ 1000 ∧ y = 0) := by
  rw [h, semSFit, hx, hl]; split
  · exact .inl ⟨by assumption, rfl⟩
  · split
    · exact .inr (.inl ⟨by omega, by assumption, rfl⟩)
    · exact .inr (.inr ⟨by omega, by omega, by omega, rfl⟩)
theorem coefs_0 {y s a : Int} {ids : List Int} (h : y = errCo s (dec 0) 0) : (y = 0 ∧ errLa s ids a = errIds ids ids.length a) ∨ (y = 2 ∧ errLa s ids a = 2) := by
  rw [dec_zero] at h
  by_cases hs : isS s
  · refine .inl ⟨?_, by unfold errLa; rw [if_neg (by simpa using hs)]⟩
    rw [h]; unfold errCo
    rw [if_neg (by simpa using hs), if_neg (by simp), if_neg (by
      rintro (h | h | h)
      · exact h (fun z hz => by cases hz)
      · omega
      · omega)]
  · refine .inr ⟨?_, by unfold errLa; rw [if_pos hs]⟩
    rw [h]; unfold errCo; rw [if_pos hs]
theorem ids_0 {y n a x : Int} (h : y = errIds (dec x) n a) (hn : n = ((dec x).length : Int)) : y = errIds (dec x) ((dec x).length : Int) a := by rw [h, hn]
theorem sameN_yes {y a b : Int} {l : List Int} (h : y = bi (dec a = dec b)) (ha : a = enc l) (hb : b = enc l) : y = 1 := by
  rw [h, bi_1 (by rw [ha, hb])]
theorem slagr_y {p : Prop} {a x : Int} (h : (p ∧ a = x) ∨ (¬ p ∧ a = 0)) (hp : p) : a = x := by
  rcases h with ⟨_, h⟩ | ⟨hn, _⟩
  · exact h
  · exact absurd hp hn
theorem slagr_n {p : Prop} {a x : Int} (h : (p ∧ a = x) ∨ (¬ p ∧ a = 0)) (hp : ¬ p) : (dec a).length = 0 := by
  rcases h with ⟨hn, _⟩ | ⟨_, h⟩
  · exact absurd hn hp
  · rw [h, dec_zero]; rfl
theorem case_y {p : Prop} {a x : Int} (h : (p ∧ a = x) ∨ (¬ p ∧ a = 0)) (hp : p) : a = x := slagr_y h hp
theorem case_n {p : Prop} {a x : Int} (h : (p ∧ a = x) ∨ (¬ p ∧ a = 0)) (hp : ¬ p) : a = 0 := by
  rcases h with ⟨hn, _⟩ | ⟨_, h⟩
  · exact absurd hn hp
  · exact h
theorem errLa_ok {s : Int} {ids : List Int} {a : Int} (h : errLa s ids a = 0) : isS s ∧ idsOk ids ∧ ids.Nodup ∧ ids.length ≤ 64 ∧ 0 ≤ a ∧ a ≤ 1000 := by
  unfold errLa at h
  split at h
  · omega
  · rename_i hs
    unfold errIds at h
    split at h
    · omega
    · rename_i hl
      obtain ⟨q1, q2, _, q3, q4⟩ := errPl_ok h
      exact ⟨by simpa using hs, q3, q4, by omega, q1, q2⟩
noncomputable def TJoins (te ti : TypeId) (fs : Nat → FuncId) : List K := [kLarge (fs 0), kLentI ti (fs 1), kLentN te (fs 2), kSLagr te (fs 3), kSJoin (fs 4), kSFit (fs 5), kKeptI (fs 6), kKeptN (fs 7), kCoefs (fs 8), kIds (fs 9), kShErr (fs 10), kSameN (fs 11), kRLagr te (fs 12), kRJoin (fs 13), kRFit (fs 14)]
def kJoins (f : FuncId) : K := { fn := f, ext := false, ins := [iI, iLi, iL, iI, iI], outs := [oB], pre := fun _ => True, sem := fun _ => [1] }
def tJoins : Tree := (.lett 5 (.int .i64) (.llen (.var 1))
(.req 0 [(.var 5)]
(.lett 6 .bit (.app 0 0 [(.var 5)])
(.split 6
 (.ret [(.lit 1)])
 (.lett 7 (.int .i64) (.llen (.var 2))
 (.req 0 [(.var 7)]
 (.lett 8 .bit (.app 0 0 [(.var 7)])
 (.split 8
  (.ret [(.lit 1)])
  (.req 1 [(.var 1)]
  (.lett 9 (.lst (.int .i64)) (.app 1 0 [(.var 1)])
  (.lett 10 (.int .i64) (.app 1 1 [(.var 1)])
  (.req 2 [(.var 2)]
  (.lett 11 (.lst .num) (.app 2 0 [(.var 2)])
  (.lett 12 (.int .i64) (.app 2 1 [(.var 2)])
  (.lett 13 (.lst (.int .i64)) (.lsub (.var 9) (.lit 0) (.var 10))
  (.req 3 [(.var 0), (.var 13), (.var 3)]
  (.lett 14 (.lst .num) (.app 3 0 [(.var 0), (.var 13), (.var 3)])
  (.lett 15 (.int .i64) (.app 3 1 [(.var 0), (.var 13), (.var 3)])
  (.lett 16 (.lst (.int .i64)) (.lsub (.var 9) (.lit 0) (.var 10))
  (.lett 17 (.lst .num) (.lsub (.var 11) (.lit 0) (.var 12))
  (.req 4 [(.var 0), (.var 16), (.var 17), (.var 3)]
  (.lett 18 .num (.app 4 0 [(.var 0), (.var 16), (.var 17), (.var 3)])
  (.lett 19 (.int .i64) (.app 4 1 [(.var 0), (.var 16), (.var 17), (.var 3)])
  (.lett 20 (.lst (.int .i64)) (.lsub (.var 9) (.lit 0) (.var 10))
  (.lett 21 (.lst .num) (.lsub (.var 11) (.lit 0) (.var 12))
  (.req 5 [(.var 0), (.var 20), (.var 21), (.var 4)]
  (.lett 22 .bit (.app 5 0 [(.var 0), (.var 20), (.var 21), (.var 4)])
  (.lett 23 (.int .i64) (.app 5 1 [(.var 0), (.var 20), (.var 21), (.var 4)])
  (.req 6 [(.var 9), (.var 10), (.var 1)]
  (.lett 24 .bit (.app 6 0 [(.var 9), (.var 10), (.var 1)])
  (.lett 25 .bit (.not (.var 24))
  (.split 25
   (.ret [(.lit 0)])
   (.req 7 [(.var 11), (.var 12), (.var 2)]
   (.lett 26 .bit (.app 7 0 [(.var 11), (.var 12), (.var 2)])
   (.lett 27 .bit (.not (.var 26))
   (.split 27
    (.ret [(.lit 0)])
    (.req 8 [(.var 0), (.lit 0), (.lit 0)]
    (.lett 28 (.int .i64) (.app 8 0 [(.var 0), (.lit 0), (.lit 0)])
    (.lett 29 .bit (.cmp .eql (.var 28) (.lit 0))
    (.split 29
     (.lett 30 (.int .i64) (.llen (.var 1))
     (.req 9 [(.var 1), (.var 30), (.var 3)]
     (.lett 31 (.int .i64) (.app 9 0 [(.var 1), (.var 30), (.var 3)])
     (.req 10 [(.var 0), (.var 1), (.var 2), (.var 3)]
     (.lett 32 (.int .i64) (.app 10 0 [(.var 0), (.var 1), (.var 2), (.var 3)])
     (.req 10 [(.var 0), (.var 1), (.var 2), (.lit 0)]
     (.lett 33 (.int .i64) (.app 10 0 [(.var 0), (.var 1), (.var 2), (.lit 0)])
     (.lett 34 .bit (.cmp .eql (.var 33) (.lit 0))
     (.split 34
      (.lett 35 .bit (.cmp .lss (.var 4) (.lit 0))
      (.split 35
       (.lett 36 .bit (.cmp .neq (.var 15) (.var 31))
       (.split 36
        (.ret [(.lit 0)])
        (.lett 37 .bit (.cmp .neq (.var 19) (.var 32))
        (.split 37
         (.ret [(.lit 0)])
         (.lett 38 .bit (.cmp .neq (.var 23) (.lit 2))
         (.split 38
          (.ret [(.lit 0)])
          (.lett 39 .bit (.cmp .eql (.var 31) (.lit 0))
          (.split 39
           (.req 12 [(.var 0), (.var 1), (.var 3)]
           (.lett 40 (.lst .num) (.app 12 0 [(.var 0), (.var 1), (.var 3)])
           (.req 11 [(.var 14), (.var 40)]
           (.lett 41 .bit (.app 11 0 [(.var 14), (.var 40)])
           (.lett 42 .bit (.not (.var 41))
           (.split 42
            (.ret [(.lit 0)])
            (.lett 43 .bit (.cmp .neq (.var 31) (.lit 0))
            (.split 43
             (.lett 44 (.int .i64) (.llen (.var 14))
             (.lett 45 .bit (.cmp .neq (.var 44) (.lit 0))
             (.split 45
              (.ret [(.lit 0)])
              (.lett 94 .bit (.cmp .eql (.var 32) (.lit 0))
              (.split 94
               (.req 13 [(.var 0), (.var 1), (.var 2), (.var 3)]
               (.lett 430 .num (.app 13 0 [(.var 0), (.var 1), (.var 2), (.var 3)])
               (.lett 478 .bit (.eqs [((.limb 18 0), (.limb 430 0)), ((.limb 18 1), (.limb 430 1)), ((.limb 18 2), (.limb 430 2)), ((.limb 18 3), (.limb 430 3)), ((.limb 18 4), (.limb 430 4)), ((.limb 18 5), (.limb 430 5))])
               (.lett 479 .bit (.not (.var 478))
               (.split 479
                (.ret [(.lit 0)])
                (.lett 670 .bit (.cmp .neq (.var 32) (.lit 0))
                (.split 670
                 (.lett 862 .bit (.eqs [((.limb 18 0), (.lit 0)), ((.limb 18 1), (.lit 0)), ((.limb 18 2), (.lit 0)), ((.limb 18 3), (.lit 0)), ((.limb 18 4), (.lit 0)), ((.limb 18 5), (.lit 0))])
                 (.lett 863 .bit (.not (.var 862))
                 (.split 863
                  (.ret [(.lit 0)])
                  (.lett 1006 .bit (.not (.var 22))
                  (.ret [(.var 1006)])))))
                 (.lett 1006 .bit (.not (.var 22))
                 (.ret [(.var 1006)])))))))))
               (.lett 670 .bit (.cmp .neq (.var 32) (.lit 0))
               (.split 670
                (.lett 862 .bit (.eqs [((.limb 18 0), (.lit 0)), ((.limb 18 1), (.lit 0)), ((.limb 18 2), (.lit 0)), ((.limb 18 3), (.lit 0)), ((.limb 18 4), (.lit 0)), ((.limb 18 5), (.lit 0))])
                (.lett 863 .bit (.not (.var 862))
                (.split 863
                 (.ret [(.lit 0)])
                 (.lett 1006 .bit (.not (.var 22))
                 (.ret [(.var 1006)])))))
                (.lett 1006 .bit (.not (.var 22))
                (.ret [(.var 1006)])))))))))
             (.lett 92 .bit (.cmp .eql (.var 32) (.lit 0))
             (.split 92
              (.req 13 [(.var 0), (.var 1), (.var 2), (.var 3)]
              (.lett 428 .num (.app 13 0 [(.var 0), (.var 1), (.var 2), (.var 3)])
              (.lett 476 .bit (.eqs [((.limb 18 0), (.limb 428 0)), ((.limb 18 1), (.limb 428 1)), ((.limb 18 2), (.limb 428 2)), ((.limb 18 3), (.limb 428 3)), ((.limb 18 4), (.limb 428 4)), ((.limb 18 5), (.limb 428 5))])
              (.lett 477 .bit (.not (.var 476))
              (.split 477
               (.ret [(.lit 0)])
               (.lett 668 .bit (.cmp .neq (.var 32) (.lit 0))
               (.split 668
                (.lett 860 .bit (.eqs [((.limb 18 0), (.lit 0)), ((.limb 18 1), (.lit 0)), ((.limb 18 2), (.lit 0)), ((.limb 18 3), (.lit 0)), ((.limb 18 4), (.lit 0)), ((.limb 18 5), (.lit 0))])
                (.lett 861 .bit (.not (.var 860))
                (.split 861
                 (.ret [(.lit 0)])
                 (.lett 1004 .bit (.not (.var 22))
                 (.ret [(.var 1004)])))))
                (.lett 1004 .bit (.not (.var 22))
                (.ret [(.var 1004)])))))))))
              (.lett 668 .bit (.cmp .neq (.var 32) (.lit 0))
              (.split 668
               (.lett 860 .bit (.eqs [((.limb 18 0), (.lit 0)), ((.limb 18 1), (.lit 0)), ((.limb 18 2), (.lit 0)), ((.limb 18 3), (.lit 0)), ((.limb 18 4), (.lit 0)), ((.limb 18 5), (.lit 0))])
               (.lett 861 .bit (.not (.var 860))
               (.split 861
                (.ret [(.lit 0)])
                (.lett 1004 .bit (.not (.var 22))
                (.ret [(.var 1004)])))))
               (.lett 1004 .bit (.not (.var 22))
               (.ret [(.var 1004)]))))))))))))))
           (.lett 40 .bit (.cmp .neq (.var 31) (.lit 0))
           (.split 40
            (.lett 41 (.int .i64) (.llen (.var 14))
            (.lett 42 .bit (.cmp .neq (.var 41) (.lit 0))
            (.split 42
             (.ret [(.lit 0)])
             (.lett 91 .bit (.cmp .eql (.var 32) (.lit 0))
             (.split 91
              (.req 13 [(.var 0), (.var 1), (.var 2), (.var 3)]
              (.lett 427 .num (.app 13 0 [(.var 0), (.var 1), (.var 2), (.var 3)])
              (.lett 475 .bit (.eqs [((.limb 18 0), (.limb 427 0)), ((.limb 18 1), (.limb 427 1)), ((.limb 18 2), (.limb 427 2)), ((.limb 18 3), (.limb 427 3)), ((.limb 18 4), (.limb 427 4)), ((.limb 18 5), (.limb 427 5))])
              (.lett 476 .bit (.not (.var 475))
              (.split 476
               (.ret [(.lit 0)])
               (.lett 667 .bit (.cmp .neq (.var 32) (.lit 0))
               (.split 667
                (.lett 859 .bit (.eqs [((.limb 18 0), (.lit 0)), ((.limb 18 1), (.lit 0)), ((.limb 18 2), (.lit 0)), ((.limb 18 3), (.lit 0)), ((.limb 18 4), (.lit 0)), ((.limb 18 5), (.lit 0))])
                (.lett 860 .bit (.not (.var 859))
                (.split 860
                 (.ret [(.lit 0)])
                 (.lett 1003 .bit (.not (.var 22))
                 (.ret [(.var 1003)])))))
                (.lett 1003 .bit (.not (.var 22))
                (.ret [(.var 1003)])))))))))
              (.lett 667 .bit (.cmp .neq (.var 32) (.lit 0))
              (.split 667
               (.lett 859 .bit (.eqs [((.limb 18 0), (.lit 0)), ((.limb 18 1), (.lit 0)), ((.limb 18 2), (.lit 0)), ((.limb 18 3), (.lit 0)), ((.limb 18 4), (.lit 0)), ((.limb 18 5), (.lit 0))])
               (.lett 860 .bit (.not (.var 859))
               (.split 860
                (.ret [(.lit 0)])
                (.lett 1003 .bit (.not (.var 22))
                (.ret [(.var 1003)])))))
               (.lett 1003 .bit (.not (.var 22))
               (.ret [(.var 1003)])))))))))
            (.lett 89 .bit (.cmp .eql (.var 32) (.lit 0))
            (.split 89
             (.req 13 [(.var 0), (.var 1), (.var 2), (.var 3)]
             (.lett 425 .num (.app 13 0 [(.var 0), (.var 1), (.var 2), (.var 3)])
             (.lett 473 .bit (.eqs [((.limb 18 0), (.limb 425 0)), ((.limb 18 1), (.limb 425 1)), ((.limb 18 2), (.limb 425 2)), ((.limb 18 3), (.limb 425 3)), ((.limb 18 4), (.limb 425 4)), ((.limb 18 5), (.limb 425 5))])
             (.lett 474 .bit (.not (.var 473))
             (.split 474
              (.ret [(.lit 0)])
              (.lett 665 .bit (.cmp .neq (.var 32) (.lit 0))
              (.split 665
               (.lett 857 .bit (.eqs [((.limb 18 0), (.lit 0)), ((.limb 18 1), (.lit 0)), ((.limb 18 2), (.lit 0)), ((.limb 18 3), (.lit 0)), ((.limb 18 4), (.lit 0)), ((.limb 18 5), (.lit 0))])
               (.lett 858 .bit (.not (.var 857))
               (.split 858
                (.ret [(.lit 0)])
                (.lett 1001 .bit (.not (.var 22))
                (.ret [(.var 1001)])))))
               (.lett 1001 .bit (.not (.var 22))
               (.ret [(.var 1001)])))))))))
             (.lett 665 .bit (.cmp .neq (.var 32) (.lit 0))
             (.split 665
              (.lett 857 .bit (.eqs [((.limb 18 0), (.lit 0)), ((.limb 18 1), (.lit 0)), ((.limb 18 2), (.lit 0)), ((.limb 18 3), (.lit 0)), ((.limb 18 4), (.lit 0)), ((.limb 18 5), (.lit 0))])
              (.lett 858 .bit (.not (.var 857))
              (.split 858
               (.ret [(.lit 0)])
               (.lett 1001 .bit (.not (.var 22))
               (.ret [(.var 1001)])))))
              (.lett 1001 .bit (.not (.var 22))
              (.ret [(.var 1001)]))))))))))))))))
       (.lett 36 .bit (.cmp .gtr (.var 4) (.lit 1000))
       (.split 36
        (.lett 37 .bit (.cmp .neq (.var 15) (.var 31))
        (.split 37
         (.ret [(.lit 0)])
         (.lett 38 .bit (.cmp .neq (.var 19) (.var 32))
         (.split 38
          (.ret [(.lit 0)])
          (.lett 39 .bit (.cmp .neq (.var 23) (.lit 2))
          (.split 39
           (.ret [(.lit 0)])
           (.lett 40 .bit (.cmp .eql (.var 31) (.lit 0))
           (.split 40
            (.req 12 [(.var 0), (.var 1), (.var 3)]
            (.lett 41 (.lst .num) (.app 12 0 [(.var 0), (.var 1), (.var 3)])
            (.req 11 [(.var 14), (.var 41)]
            (.lett 42 .bit (.app 11 0 [(.var 14), (.var 41)])
            (.lett 43 .bit (.not (.var 42))
            (.split 43
             (.ret [(.lit 0)])
             (.lett 44 .bit (.cmp .neq (.var 31) (.lit 0))
             (.split 44
              (.lett 45 (.int .i64) (.llen (.var 14))
              (.lett 46 .bit (.cmp .neq (.var 45) (.lit 0))
              (.split 46
               (.ret [(.lit 0)])
               (.lett 95 .bit (.cmp .eql (.var 32) (.lit 0))
               (.split 95
                (.req 13 [(.var 0), (.var 1), (.var 2), (.var 3)]
                (.lett 431 .num (.app 13 0 [(.var 0), (.var 1), (.var 2), (.var 3)])
                (.lett 479 .bit (.eqs [((.limb 18 0), (.limb 431 0)), ((.limb 18 1), (.limb 431 1)), ((.limb 18 2), (.limb 431 2)), ((.limb 18 3), (.limb 431 3)), ((.limb 18 4), (.limb 431 4)), ((.limb 18 5), (.limb 431 5))])
                (.lett 480 .bit (.not (.var 479))
                (.split 480
                 (.ret [(.lit 0)])
                 (.lett 671 .bit (.cmp .neq (.var 32) (.lit 0))
                 (.split 671
                  (.lett 863 .bit (.eqs [((.limb 18 0), (.lit 0)), ((.limb 18 1), (.lit 0)), ((.limb 18 2), (.lit 0)), ((.limb 18 3), (.lit 0)), ((.limb 18 4), (.lit 0)), ((.limb 18 5), (.lit 0))])
                  (.lett 864 .bit (.not (.var 863))
                  (.split 864
                   (.ret [(.lit 0)])
                   (.lett 1007 .bit (.not (.var 22))
                   (.ret [(.var 1007)])))))
                  (.lett 1007 .bit (.not (.var 22))
                  (.ret [(.var 1007)])))))))))
                (.lett 671 .bit (.cmp .neq (.var 32) (.lit 0))
                (.split 671
                 (.lett 863 .bit (.eqs [((.limb 18 0), (.lit 0)), ((.limb 18 1), (.lit 0)), ((.limb 18 2), (.lit 0)), ((.limb 18 3), (.lit 0)), ((.limb 18 4), (.lit 0)), ((.limb 18 5), (.lit 0))])
                 (.lett 864 .bit (.not (.var 863))
                 (.split 864
                  (.ret [(.lit 0)])
                  (.lett 1007 .bit (.not (.var 22))
                  (.ret [(.var 1007)])))))
                 (.lett 1007 .bit (.not (.var 22))
                 (.ret [(.var 1007)])))))))))
              (.lett 93 .bit (.cmp .eql (.var 32) (.lit 0))
              (.split 93
               (.req 13 [(.var 0), (.var 1), (.var 2), (.var 3)]
               (.lett 429 .num (.app 13 0 [(.var 0), (.var 1), (.var 2), (.var 3)])
               (.lett 477 .bit (.eqs [((.limb 18 0), (.limb 429 0)), ((.limb 18 1), (.limb 429 1)), ((.limb 18 2), (.limb 429 2)), ((.limb 18 3), (.limb 429 3)), ((.limb 18 4), (.limb 429 4)), ((.limb 18 5), (.limb 429 5))])
               (.lett 478 .bit (.not (.var 477))
               (.split 478
                (.ret [(.lit 0)])
                (.lett 669 .bit (.cmp .neq (.var 32) (.lit 0))
                (.split 669
                 (.lett 861 .bit (.eqs [((.limb 18 0), (.lit 0)), ((.limb 18 1), (.lit 0)), ((.limb 18 2), (.lit 0)), ((.limb 18 3), (.lit 0)), ((.limb 18 4), (.lit 0)), ((.limb 18 5), (.lit 0))])
                 (.lett 862 .bit (.not (.var 861))
                 (.split 862
                  (.ret [(.lit 0)])
                  (.lett 1005 .bit (.not (.var 22))
                  (.ret [(.var 1005)])))))
                 (.lett 1005 .bit (.not (.var 22))
                 (.ret [(.var 1005)])))))))))
               (.lett 669 .bit (.cmp .neq (.var 32) (.lit 0))
               (.split 669
                (.lett 861 .bit (.eqs [((.limb 18 0), (.lit 0)), ((.limb 18 1), (.lit 0)), ((.limb 18 2), (.lit 0)), ((.limb 18 3), (.lit 0)), ((.limb 18 4), (.lit 0)), ((.limb 18 5), (.lit 0))])
                (.lett 862 .bit (.not (.var 861))
                (.split 862
                 (.ret [(.lit 0)])
                 (.lett 1005 .bit (.not (.var 22))
                 (.ret [(.var 1005)])))))
                (.lett 1005 .bit (.not (.var 22))
                (.ret [(.var 1005)]))))))))))))))
            (.lett 41 .bit (.cmp .neq (.var 31) (.lit 0))
            (.split 41
             (.lett 42 (.int .i64) (.llen (.var 14))
             (.lett 43 .bit (.cmp .neq (.var 42) (.lit 0))
             (.split 43
              (.ret [(.lit 0)])
              (.lett 92 .bit (.cmp .eql (.var 32) (.lit 0))
              (.split 92
               (.req 13 [(.var 0), (.var 1), (.var 2), (.var 3)]
               (.lett 428 .num (.app 13 0 [(.var 0), (.var 1), (.var 2), (.var 3)])
               (.lett 476 .bit (.eqs [((.limb 18 0), (.limb 428 0)), ((.limb 18 1), (.limb 428 1)), ((.limb 18 2), (.limb 428 2)), ((.limb 18 3), (.limb 428 3)), ((.limb 18 4), (.limb 428 4)), ((.limb 18 5), (.limb 428 5))])
               (.lett 477 .bit (.not (.var 476))
               (.split 477
                (.ret [(.lit 0)])
                (.lett 668 .bit (.cmp .neq (.var 32) (.lit 0))
                (.split 668
                 (.lett 860 .bit (.eqs [((.limb 18 0), (.lit 0)), ((.limb 18 1), (.lit 0)), ((.limb 18 2), (.lit 0)), ((.limb 18 3), (.lit 0)), ((.limb 18 4), (.lit 0)), ((.limb 18 5), (.lit 0))])
                 (.lett 861 .bit (.not (.var 860))
                 (.split 861
                  (.ret [(.lit 0)])
                  (.lett 1004 .bit (.not (.var 22))
                  (.ret [(.var 1004)])))))
                 (.lett 1004 .bit (.not (.var 22))
                 (.ret [(.var 1004)])))))))))
               (.lett 668 .bit (.cmp .neq (.var 32) (.lit 0))
               (.split 668
                (.lett 860 .bit (.eqs [((.limb 18 0), (.lit 0)), ((.limb 18 1), (.lit 0)), ((.limb 18 2), (.lit 0)), ((.limb 18 3), (.lit 0)), ((.limb 18 4), (.lit 0)), ((.limb 18 5), (.lit 0))])
                (.lett 861 .bit (.not (.var 860))
                (.split 861
                 (.ret [(.lit 0)])
                 (.lett 1004 .bit (.not (.var 22))
                 (.ret [(.var 1004)])))))
                (.lett 1004 .bit (.not (.var 22))
                (.ret [(.var 1004)])))))))))
             (.lett 90 .bit (.cmp .eql (.var 32) (.lit 0))
             (.split 90
              (.req 13 [(.var 0), (.var 1), (.var 2), (.var 3)]
              (.lett 426 .num (.app 13 0 [(.var 0), (.var 1), (.var 2), (.var 3)])
              (.lett 474 .bit (.eqs [((.limb 18 0), (.limb 426 0)), ((.limb 18 1), (.limb 426 1)), ((.limb 18 2), (.limb 426 2)), ((.limb 18 3), (.limb 426 3)), ((.limb 18 4), (.limb 426 4)), ((.limb 18 5), (.limb 426 5))])
              (.lett 475 .bit (.not (.var 474))
              (.split 475
               (.ret [(.lit 0)])
               (.lett 666 .bit (.cmp .neq (.var 32) (.lit 0))
               (.split 666
                (.lett 858 .bit (.eqs [((.limb 18 0), (.lit 0)), ((.limb 18 1), (.lit 0)), ((.limb 18 2), (.lit 0)), ((.limb 18 3), (.lit 0)), ((.limb 18 4), (.lit 0)), ((.limb 18 5), (.lit 0))])
                (.lett 859 .bit (.not (.var 858))
                (.split 859
                 (.ret [(.lit 0)])
                 (.lett 1002 .bit (.not (.var 22))
                 (.ret [(.var 1002)])))))
                (.lett 1002 .bit (.not (.var 22))
                (.ret [(.var 1002)])))))))))
              (.lett 666 .bit (.cmp .neq (.var 32) (.lit 0))
              (.split 666
               (.lett 858 .bit (.eqs [((.limb 18 0), (.lit 0)), ((.limb 18 1), (.lit 0)), ((.limb 18 2), (.lit 0)), ((.limb 18 3), (.lit 0)), ((.limb 18 4), (.lit 0)), ((.limb 18 5), (.lit 0))])
               (.lett 859 .bit (.not (.var 858))
               (.split 859
                (.ret [(.lit 0)])
                (.lett 1002 .bit (.not (.var 22))
                (.ret [(.var 1002)])))))
               (.lett 1002 .bit (.not (.var 22))
               (.ret [(.var 1002)]))))))))))))))))
        (.lett 37 .bit (.cmp .neq (.var 15) (.var 31))
        (.split 37
         (.ret [(.lit 0)])
         (.lett 38 .bit (.cmp .neq (.var 19) (.var 32))
         (.split 38
          (.ret [(.lit 0)])
          (.lett 39 .bit (.cmp .neq (.var 23) (.var 33))
          (.split 39
           (.ret [(.lit 0)])
           (.lett 40 .bit (.cmp .eql (.var 31) (.lit 0))
           (.split 40
            (.req 12 [(.var 0), (.var 1), (.var 3)]
            (.lett 41 (.lst .num) (.app 12 0 [(.var 0), (.var 1), (.var 3)])
            (.req 11 [(.var 14), (.var 41)]
            (.lett 42 .bit (.app 11 0 [(.var 14), (.var 41)])
            (.lett 43 .bit (.not (.var 42))
            (.split 43
             (.ret [(.lit 0)])
             (.lett 44 .bit (.cmp .neq (.var 31) (.lit 0))
             (.split 44
              (.lett 45 (.int .i64) (.llen (.var 14))
              (.lett 46 .bit (.cmp .neq (.var 45) (.lit 0))
              (.split 46
               (.ret [(.lit 0)])
               (.lett 95 .bit (.cmp .eql (.var 32) (.lit 0))
               (.split 95
                (.req 13 [(.var 0), (.var 1), (.var 2), (.var 3)]
                (.lett 431 .num (.app 13 0 [(.var 0), (.var 1), (.var 2), (.var 3)])
                (.lett 479 .bit (.eqs [((.limb 18 0), (.limb 431 0)), ((.limb 18 1), (.limb 431 1)), ((.limb 18 2), (.limb 431 2)), ((.limb 18 3), (.limb 431 3)), ((.limb 18 4), (.limb 431 4)), ((.limb 18 5), (.limb 431 5))])
                (.lett 480 .bit (.not (.var 479))
                (.split 480
                 (.ret [(.lit 0)])
                 (.lett 671 .bit (.cmp .neq (.var 32) (.lit 0))
                 (.split 671
                  (.lett 863 .bit (.eqs [((.limb 18 0), (.lit 0)), ((.limb 18 1), (.lit 0)), ((.limb 18 2), (.lit 0)), ((.limb 18 3), (.lit 0)), ((.limb 18 4), (.lit 0)), ((.limb 18 5), (.lit 0))])
                  (.lett 864 .bit (.not (.var 863))
                  (.split 864
                   (.ret [(.lit 0)])
                   (.lett 1007 .bit (.cmp .eql (.var 33) (.lit 0))
                   (.split 1007
                    (.req 14 [(.var 0), (.var 1), (.var 2), (.var 4)]
                    (.lett 1008 .bit (.app 14 0 [(.var 0), (.var 1), (.var 2), (.var 4)])
                    (.lett 1009 .bit (.cmp .eql (.var 22) (.var 1008))
                    (.split 1009
                     (.ret [(.lit 1)])
                     (.lett 1010 .bit (.cmp .neq (.var 33) (.lit 0))
                     (.split 1010
                      (.lett 1011 .bit (.not (.var 22))
                      (.ret [(.var 1011)]))
                      (.ret [(.lit 0)])))))))
                    (.lett 1008 .bit (.cmp .neq (.var 33) (.lit 0))
                    (.split 1008
                     (.lett 1009 .bit (.not (.var 22))
                     (.ret [(.var 1009)]))
                     (.ret [(.lit 0)]))))))))
                  (.lett 1007 .bit (.cmp .eql (.var 33) (.lit 0))
                  (.split 1007
                   (.req 14 [(.var 0), (.var 1), (.var 2), (.var 4)]
                   (.lett 1008 .bit (.app 14 0 [(.var 0), (.var 1), (.var 2), (.var 4)])
                   (.lett 1009 .bit (.cmp .eql (.var 22) (.var 1008))
                   (.split 1009
                    (.ret [(.lit 1)])
                    (.lett 1010 .bit (.cmp .neq (.var 33) (.lit 0))
                    (.split 1010
                     (.lett 1011 .bit (.not (.var 22))
                     (.ret [(.var 1011)]))
                     (.ret [(.lit 0)])))))))
                   (.lett 1008 .bit (.cmp .neq (.var 33) (.lit 0))
                   (.split 1008
                    (.lett 1009 .bit (.not (.var 22))
                    (.ret [(.var 1009)]))
                    (.ret [(.lit 0)]))))))))))))
                (.lett 671 .bit (.cmp .neq (.var 32) (.lit 0))
                (.split 671
                 (.lett 863 .bit (.eqs [((.limb 18 0), (.lit 0)), ((.limb 18 1), (.lit 0)), ((.limb 18 2), (.lit 0)), ((.limb 18 3), (.lit 0)), ((.limb 18 4), (.lit 0)), ((.limb 18 5), (.lit 0))])
                 (.lett 864 .bit (.not (.var 863))
                 (.split 864
                  (.ret [(.lit 0)])
                  (.lett 1007 .bit (.cmp .eql (.var 33) (.lit 0))
                  (.split 1007
                   (.req 14 [(.var 0), (.var 1), (.var 2), (.var 4)]
                   (.lett 1008 .bit (.app 14 0 [(.var 0), (.var 1), (.var 2), (.var 4)])
                   (.lett 1009 .bit (.cmp .eql (.var 22) (.var 1008))
                   (.split 1009
                    (.ret [(.lit 1)])
                    (.lett 1010 .bit (.cmp .neq (.var 33) (.lit 0))
                    (.split 1010
                     (.lett 1011 .bit (.not (.var 22))
                     (.ret [(.var 1011)]))
                     (.ret [(.lit 0)])))))))
                   (.lett 1008 .bit (.cmp .neq (.var 33) (.lit 0))
                   (.split 1008
                    (.lett 1009 .bit (.not (.var 22))
                    (.ret [(.var 1009)]))
                    (.ret [(.lit 0)]))))))))
                 (.lett 1007 .bit (.cmp .eql (.var 33) (.lit 0))
                 (.split 1007
                  (.req 14 [(.var 0), (.var 1), (.var 2), (.var 4)]
                  (.lett 1008 .bit (.app 14 0 [(.var 0), (.var 1), (.var 2), (.var 4)])
                  (.lett 1009 .bit (.cmp .eql (.var 22) (.var 1008))
                  (.split 1009
                   (.ret [(.lit 1)])
                   (.lett 1010 .bit (.cmp .neq (.var 33) (.lit 0))
                   (.split 1010
                    (.lett 1011 .bit (.not (.var 22))
                    (.ret [(.var 1011)]))
                    (.ret [(.lit 0)])))))))
                  (.lett 1008 .bit (.cmp .neq (.var 33) (.lit 0))
                  (.split 1008
                   (.lett 1009 .bit (.not (.var 22))
                   (.ret [(.var 1009)]))
                   (.ret [(.lit 0)]))))))))))))
              (.lett 93 .bit (.cmp .eql (.var 32) (.lit 0))
              (.split 93
               (.req 13 [(.var 0), (.var 1), (.var 2), (.var 3)]
               (.lett 429 .num (.app 13 0 [(.var 0), (.var 1), (.var 2), (.var 3)])
               (.lett 477 .bit (.eqs [((.limb 18 0), (.limb 429 0)), ((.limb 18 1), (.limb 429 1)), ((.limb 18 2), (.limb 429 2)), ((.limb 18 3), (.limb 429 3)), ((.limb 18 4), (.limb 429 4)), ((.limb 18 5), (.limb 429 5))])
               (.lett 478 .bit (.not (.var 477))
               (.split 478
                (.ret [(.lit 0)])
                (.lett 669 .bit (.cmp .neq (.var 32) (.lit 0))
                (.split 669
                 (.lett 861 .bit (.eqs [((.limb 18 0), (.lit 0)), ((.limb 18 1), (.lit 0)), ((.limb 18 2), (.lit 0)), ((.limb 18 3), (.lit 0)), ((.limb 18 4), (.lit 0)), ((.limb 18 5), (.lit 0))])
                 (.lett 862 .bit (.not (.var 861))
                 (.split 862
                  (.ret [(.lit 0)])
                  (.lett 1005 .bit (.cmp .eql (.var 33) (.lit 0))
                  (.split 1005
                   (.req 14 [(.var 0), (.var 1), (.var 2), (.var 4)]
                   (.lett 1006 .bit (.app 14 0 [(.var 0), (.var 1), (.var 2), (.var 4)])
                   (.lett 1007 .bit (.cmp .eql (.var 22) (.var 1006))
                   (.split 1007
                    (.ret [(.lit 1)])
                    (.lett 1008 .bit (.cmp .neq (.var 33) (.lit 0))
                    (.split 1008
                     (.lett 1009 .bit (.not (.var 22))
                     (.ret [(.var 1009)]))
                     (.ret [(.lit 0)])))))))
                   (.lett 1006 .bit (.cmp .neq (.var 33) (.lit 0))
                   (.split 1006
                    (.lett 1007 .bit (.not (.var 22))
                    (.ret [(.var 1007)]))
                    (.ret [(.lit 0)]))))))))
                 (.lett 1005 .bit (.cmp .eql (.var 33) (.lit 0))
                 (.split 1005
                  (.req 14 [(.var 0), (.var 1), (.var 2), (.var 4)]
                  (.lett 1006 .bit (.app 14 0 [(.var 0), (.var 1), (.var 2), (.var 4)])
                  (.lett 1007 .bit (.cmp .eql (.var 22) (.var 1006))
                  (.split 1007
                   (.ret [(.lit 1)])
                   (.lett 1008 .bit (.cmp .neq (.var 33) (.lit 0))
                   (.split 1008
                    (.lett 1009 .bit (.not (.var 22))
                    (.ret [(.var 1009)]))
                    (.ret [(.lit 0)])))))))
                  (.lett 1006 .bit (.cmp .neq (.var 33) (.lit 0))
                  (.split 1006
                   (.lett 1007 .bit (.not (.var 22))
                   (.ret [(.var 1007)]))
                   (.ret [(.lit 0)]))))))))))))
               (.lett 669 .bit (.cmp .neq (.var 32) (.lit 0))
               (.split 669
                (.lett 861 .bit (.eqs [((.limb 18 0), (.lit 0)), ((.limb 18 1), (.lit 0)), ((.limb 18 2), (.lit 0)), ((.limb 18 3), (.lit 0)), ((.limb 18 4), (.lit 0)), ((.limb 18 5), (.lit 0))])
                (.lett 862 .bit (.not (.var 861))
                (.split 862
                 (.ret [(.lit 0)])
                 (.lett 1005 .bit (.cmp .eql (.var 33) (.lit 0))
                 (.split 1005
                  (.req 14 [(.var 0), (.var 1), (.var 2), (.var 4)]
                  (.lett 1006 .bit (.app 14 0 [(.var 0), (.var 1), (.var 2), (.var 4)])
                  (.lett 1007 .bit (.cmp .eql (.var 22) (.var 1006))
                  (.split 1007
                   (.ret [(.lit 1)])
                   (.lett 1008 .bit (.cmp .neq (.var 33) (.lit 0))
                   (.split 1008
                    (.lett 1009 .bit (.not (.var 22))
                    (.ret [(.var 1009)]))
                    (.ret [(.lit 0)])))))))
                  (.lett 1006 .bit (.cmp .neq (.var 33) (.lit 0))
                  (.split 1006
                   (.lett 1007 .bit (.not (.var 22))
                   (.ret [(.var 1007)]))
                   (.ret [(.lit 0)]))))))))
                (.lett 1005 .bit (.cmp .eql (.var 33) (.lit 0))
                (.split 1005
                 (.req 14 [(.var 0), (.var 1), (.var 2), (.var 4)]
                 (.lett 1006 .bit (.app 14 0 [(.var 0), (.var 1), (.var 2), (.var 4)])
                 (.lett 1007 .bit (.cmp .eql (.var 22) (.var 1006))
                 (.split 1007
                  (.ret [(.lit 1)])
                  (.lett 1008 .bit (.cmp .neq (.var 33) (.lit 0))
                  (.split 1008
                   (.lett 1009 .bit (.not (.var 22))
                   (.ret [(.var 1009)]))
                   (.ret [(.lit 0)])))))))
                 (.lett 1006 .bit (.cmp .neq (.var 33) (.lit 0))
                 (.split 1006
                  (.lett 1007 .bit (.not (.var 22))
                  (.ret [(.var 1007)]))
                  (.ret [(.lit 0)])))))))))))))))))
            (.lett 41 .bit (.cmp .neq (.var 31) (.lit 0))
            (.split 41
             (.lett 42 (.int .i64) (.llen (.var 14))
             (.lett 43 .bit (.cmp .neq (.var 42) (.lit 0))
             (.split 43
              (.ret [(.lit 0)])
              (.lett 92 .bit (.cmp .eql (.var 32) (.lit 0))
              (.split 92
               (.req 13 [(.var 0), (.var 1), (.var 2), (.var 3)]
               (.lett 428 .num (.app 13 0 [(.var 0), (.var 1), (.var 2), (.var 3)])
               (.lett 476 .bit (.eqs [((.limb 18 0), (.limb 428 0)), ((.limb 18 1), (.limb 428 1)), ((.limb 18 2), (.limb 428 2)), ((.limb 18 3), (.limb 428 3)), ((.limb 18 4), (.limb 428 4)), ((.limb 18 5), (.limb 428 5))])
               (.lett 477 .bit (.not (.var 476))
               (.split 477
                (.ret [(.lit 0)])
                (.lett 668 .bit (.cmp .neq (.var 32) (.lit 0))
                (.split 668
                 (.lett 860 .bit (.eqs [((.limb 18 0), (.lit 0)), ((.limb 18 1), (.lit 0)), ((.limb 18 2), (.lit 0)), ((.limb 18 3), (.lit 0)), ((.limb 18 4), (.lit 0)), ((.limb 18 5), (.lit 0))])
                 (.lett 861 .bit (.not (.var 860))
                 (.split 861
                  (.ret [(.lit 0)])
                  (.lett 1004 .bit (.cmp .eql (.var 33) (.lit 0))
                  (.split 1004
                   (.req 14 [(.var 0), (.var 1), (.var 2), (.var 4)]
                   (.lett 1005 .bit (.app 14 0 [(.var 0), (.var 1), (.var 2), (.var 4)])
                   (.lett 1006 .bit (.cmp .eql (.var 22) (.var 1005))
                   (.split 1006
                    (.ret [(.lit 1)])
                    (.lett 1007 .bit (.cmp .neq (.var 33) (.lit 0))
                    (.split 1007
                     (.lett 1008 .bit (.not (.var 22))
                     (.ret [(.var 1008)]))
                     (.ret [(.lit 0)])))))))
                   (.lett 1005 .bit (.cmp .neq (.var 33) (.lit 0))
                   (.split 1005
                    (.lett 1006 .bit (.not (.var 22))
                    (.ret [(.var 1006)]))
                    (.ret [(.lit 0)]))))))))
                 (.lett 1004 .bit (.cmp .eql (.var 33) (.lit 0))
                 (.split 1004
                  (.req 14 [(.var 0), (.var 1), (.var 2), (.var 4)]
                  (.lett 1005 .bit (.app 14 0 [(.var 0), (.var 1), (.var 2), (.var 4)])
                  (.lett 1006 .bit (.cmp .eql (.var 22) (.var 1005))
                  (.split 1006
                   (.ret [(.lit 1)])
                   (.lett 1007 .bit (.cmp .neq (.var 33) (.lit 0))
                   (.split 1007
                    (.lett 1008 .bit (.not (.var 22))
                    (.ret [(.var 1008)]))
                    (.ret [(.lit 0)])))))))
                  (.lett 1005 .bit (.cmp .neq (.var 33) (.lit 0))
                  (.split 1005
                   (.lett 1006 .bit (.not (.var 22))
                   (.ret [(.var 1006)]))
                   (.ret [(.lit 0)]))))))))))))
               (.lett 668 .bit (.cmp .neq (.var 32) (.lit 0))
               (.split 668
                (.lett 860 .bit (.eqs [((.limb 18 0), (.lit 0)), ((.limb 18 1), (.lit 0)), ((.limb 18 2), (.lit 0)), ((.limb 18 3), (.lit 0)), ((.limb 18 4), (.lit 0)), ((.limb 18 5), (.lit 0))])
                (.lett 861 .bit (.not (.var 860))
                (.split 861
                 (.ret [(.lit 0)])
                 (.lett 1004 .bit (.cmp .eql (.var 33) (.lit 0))
                 (.split 1004
                  (.req 14 [(.var 0), (.var 1), (.var 2), (.var 4)]
                  (.lett 1005 .bit (.app 14 0 [(.var 0), (.var 1), (.var 2), (.var 4)])
                  (.lett 1006 .bit (.cmp .eql (.var 22) (.var 1005))
                  (.split 1006
                   (.ret [(.lit 1)])
                   (.lett 1007 .bit (.cmp .neq (.var 33) (.lit 0))
                   (.split 1007
                    (.lett 1008 .bit (.not (.var 22))
                    (.ret [(.var 1008)]))
                    (.ret [(.lit 0)])))))))
                  (.lett 1005 .bit (.cmp .neq (.var 33) (.lit 0))
                  (.split 1005
                   (.lett 1006 .bit (.not (.var 22))
                   (.ret [(.var 1006)]))
                   (.ret [(.lit 0)]))))))))
                (.lett 1004 .bit (.cmp .eql (.var 33) (.lit 0))
                (.split 1004
                 (.req 14 [(.var 0), (.var 1), (.var 2), (.var 4)]
                 (.lett 1005 .bit (.app 14 0 [(.var 0), (.var 1), (.var 2), (.var 4)])
                 (.lett 1006 .bit (.cmp .eql (.var 22) (.var 1005))
                 (.split 1006
                  (.ret [(.lit 1)])
                  (.lett 1007 .bit (.cmp .neq (.var 33) (.lit 0))
                  (.split 1007
                   (.lett 1008 .bit (.not (.var 22))
                   (.ret [(.var 1008)]))
                   (.ret [(.lit 0)])))))))
                 (.lett 1005 .bit (.cmp .neq (.var 33) (.lit 0))
                 (.split 1005
                  (.lett 1006 .bit (.not (.var 22))
                  (.ret [(.var 1006)]))
                  (.ret [(.lit 0)]))))))))))))
             (.lett 90 .bit (.cmp .eql (.var 32) (.lit 0))
             (.split 90
              (.req 13 [(.var 0), (.var 1), (.var 2), (.var 3)]
              (.lett 426 .num (.app 13 0 [(.var 0), (.var 1), (.var 2), (.var 3)])
              (.lett 474 .bit (.eqs [((.limb 18 0), (.limb 426 0)), ((.limb 18 1), (.limb 426 1)), ((.limb 18 2), (.limb 426 2)), ((.limb 18 3), (.limb 426 3)), ((.limb 18 4), (.limb 426 4)), ((.limb 18 5), (.limb 426 5))])
              (.lett 475 .bit (.not (.var 474))
              (.split 475
               (.ret [(.lit 0)])
               (.lett 666 .bit (.cmp .neq (.var 32) (.lit 0))
               (.split 666
                (.lett 858 .bit (.eqs [((.limb 18 0), (.lit 0)), ((.limb 18 1), (.lit 0)), ((.limb 18 2), (.lit 0)), ((.limb 18 3), (.lit 0)), ((.limb 18 4), (.lit 0)), ((.limb 18 5), (.lit 0))])
                (.lett 859 .bit (.not (.var 858))
                (.split 859
                 (.ret [(.lit 0)])
                 (.lett 1002 .bit (.cmp .eql (.var 33) (.lit 0))
                 (.split 1002
                  (.req 14 [(.var 0), (.var 1), (.var 2), (.var 4)]
                  (.lett 1003 .bit (.app 14 0 [(.var 0), (.var 1), (.var 2), (.var 4)])
                  (.lett 1004 .bit (.cmp .eql (.var 22) (.var 1003))
                  (.split 1004
                   (.ret [(.lit 1)])
                   (.lett 1005 .bit (.cmp .neq (.var 33) (.lit 0))
                   (.split 1005
                    (.lett 1006 .bit (.not (.var 22))
                    (.ret [(.var 1006)]))
                    (.ret [(.lit 0)])))))))
                  (.lett 1003 .bit (.cmp .neq (.var 33) (.lit 0))
                  (.split 1003
                   (.lett 1004 .bit (.not (.var 22))
                   (.ret [(.var 1004)]))
                   (.ret [(.lit 0)]))))))))
                (.lett 1002 .bit (.cmp .eql (.var 33) (.lit 0))
                (.split 1002
                 (.req 14 [(.var 0), (.var 1), (.var 2), (.var 4)]
                 (.lett 1003 .bit (.app 14 0 [(.var 0), (.var 1), (.var 2), (.var 4)])
                 (.lett 1004 .bit (.cmp .eql (.var 22) (.var 1003))
                 (.split 1004
                  (.ret [(.lit 1)])
                  (.lett 1005 .bit (.cmp .neq (.var 33) (.lit 0))
                  (.split 1005
                   (.lett 1006 .bit (.not (.var 22))
                   (.ret [(.var 1006)]))
                   (.ret [(.lit 0)])))))))
                 (.lett 1003 .bit (.cmp .neq (.var 33) (.lit 0))
                 (.split 1003
                  (.lett 1004 .bit (.not (.var 22))
                  (.ret [(.var 1004)]))
                  (.ret [(.lit 0)]))))))))))))
              (.lett 666 .bit (.cmp .neq (.var 32) (.lit 0))
              (.split 666
               (.lett 858 .bit (.eqs [((.limb 18 0), (.lit 0)), ((.limb 18 1), (.lit 0)), ((.limb 18 2), (.lit 0)), ((.limb 18 3), (.lit 0)), ((.limb 18 4), (.lit 0)), ((.limb 18 5), (.lit 0))])
               (.lett 859 .bit (.not (.var 858))
               (.split 859
                (.ret [(.lit 0)])
                (.lett 1002 .bit (.cmp .eql (.var 33) (.lit 0))
                (.split 1002
                 (.req 14 [(.var 0), (.var 1), (.var 2), (.var 4)]
                 (.lett 1003 .bit (.app 14 0 [(.var 0), (.var 1), (.var 2), (.var 4)])
                 (.lett 1004 .bit (.cmp .eql (.var 22) (.var 1003))
                 (.split 1004
                  (.ret [(.lit 1)])
                  (.lett 1005 .bit (.cmp .neq (.var 33) (.lit 0))
                  (.split 1005
                   (.lett 1006 .bit (.not (.var 22))
                   (.ret [(.var 1006)]))
                   (.ret [(.lit 0)])))))))
                 (.lett 1003 .bit (.cmp .neq (.var 33) (.lit 0))
                 (.split 1003
                  (.lett 1004 .bit (.not (.var 22))
                  (.ret [(.var 1004)]))
                  (.ret [(.lit 0)]))))))))
               (.lett 1002 .bit (.cmp .eql (.var 33) (.lit 0))
               (.split 1002
                (.req 14 [(.var 0), (.var 1), (.var 2), (.var 4)]
                (.lett 1003 .bit (.app 14 0 [(.var 0), (.var 1), (.var 2), (.var 4)])
                (.lett 1004 .bit (.cmp .eql (.var 22) (.var 1003))
                (.split 1004
                 (.ret [(.lit 1)])
                 (.lett 1005 .bit (.cmp .neq (.var 33) (.lit 0))
                 (.split 1005
                  (.lett 1006 .bit (.not (.var 22))
                  (.ret [(.var 1006)]))
                  (.ret [(.lit 0)])))))))
                (.lett 1003 .bit (.cmp .neq (.var 33) (.lit 0))
                (.split 1003
                 (.lett 1004 .bit (.not (.var 22))
                 (.ret [(.var 1004)]))
                 (.ret [(.lit 0)])))))))))))))))))))))))
      (.lett 35 .bit (.cmp .neq (.var 15) (.var 31))
      (.split 35
       (.ret [(.lit 0)])
       (.lett 36 .bit (.cmp .neq (.var 19) (.var 32))
       (.split 36
        (.ret [(.lit 0)])
        (.lett 37 .bit (.cmp .neq (.var 23) (.var 33))
        (.split 37
         (.ret [(.lit 0)])
         (.lett 38 .bit (.cmp .eql (.var 31) (.lit 0))
         (.split 38
          (.req 12 [(.var 0), (.var 1), (.var 3)]
          (.lett 39 (.lst .num) (.app 12 0 [(.var 0), (.var 1), (.var 3)])
          (.req 11 [(.var 14), (.var 39)]
          (.lett 40 .bit (.app 11 0 [(.var 14), (.var 39)])
          (.lett 41 .bit (.not (.var 40))
          (.split 41
           (.ret [(.lit 0)])
           (.lett 42 .bit (.cmp .neq (.var 31) (.lit 0))
           (.split 42
            (.lett 43 (.int .i64) (.llen (.var 14))
            (.lett 44 .bit (.cmp .neq (.var 43) (.lit 0))
            (.split 44
             (.ret [(.lit 0)])
             (.lett 93 .bit (.cmp .eql (.var 32) (.lit 0))
             (.split 93
              (.req 13 [(.var 0), (.var 1), (.var 2), (.var 3)]
              (.lett 429 .num (.app 13 0 [(.var 0), (.var 1), (.var 2), (.var 3)])
              (.lett 477 .bit (.eqs [((.limb 18 0), (.limb 429 0)), ((.limb 18 1), (.limb 429 1)), ((.limb 18 2), (.limb 429 2)), ((.limb 18 3), (.limb 429 3)), ((.limb 18 4), (.limb 429 4)), ((.limb 18 5), (.limb 429 5))])
              (.lett 478 .bit (.not (.var 477))
              (.split 478
               (.ret [(.lit 0)])
               (.lett 669 .bit (.cmp .neq (.var 32) (.lit 0))
               (.split 669
                (.lett 861 .bit (.eqs [((.limb 18 0), (.lit 0)), ((.limb 18 1), (.lit 0)), ((.limb 18 2), (.lit 0)), ((.limb 18 3), (.lit 0)), ((.limb 18 4), (.lit 0)), ((.limb 18 5), (.lit 0))])
                (.lett 862 .bit (.not (.var 861))
                (.split 862
                 (.ret [(.lit 0)])
                 (.lett 1005 .bit (.cmp .eql (.var 33) (.lit 0))
                 (.split 1005
                  (.req 14 [(.var 0), (.var 1), (.var 2), (.var 4)]
                  (.lett 1006 .bit (.app 14 0 [(.var 0), (.var 1), (.var 2), (.var 4)])
                  (.lett 1007 .bit (.cmp .eql (.var 22) (.var 1006))
                  (.split 1007
                   (.ret [(.lit 1)])
                   (.lett 1008 .bit (.cmp .neq (.var 33) (.lit 0))
                   (.split 1008
                    (.lett 1009 .bit (.not (.var 22))
                    (.ret [(.var 1009)]))
                    (.ret [(.lit 0)])))))))
                  (.lett 1006 .bit (.cmp .neq (.var 33) (.lit 0))
                  (.split 1006
                   (.lett 1007 .bit (.not (.var 22))
                   (.ret [(.var 1007)]))
                   (.ret [(.lit 0)]))))))))
                (.lett 1005 .bit (.cmp .eql (.var 33) (.lit 0))
                (.split 1005
                 (.req 14 [(.var 0), (.var 1), (.var 2), (.var 4)]
                 (.lett 1006 .bit (.app 14 0 [(.var 0), (.var 1), (.var 2), (.var 4)])
                 (.lett 1007 .bit (.cmp .eql (.var 22) (.var 1006))
                 (.split 1007
                  (.ret [(.lit 1)])
                  (.lett 1008 .bit (.cmp .neq (.var 33) (.lit 0))
                  (.split 1008
                   (.lett 1009 .bit (.not (.var 22))
                   (.ret [(.var 1009)]))
                   (.ret [(.lit 0)])))))))
                 (.lett 1006 .bit (.cmp .neq (.var 33) (.lit 0))
                 (.split 1006
                  (.lett 1007 .bit (.not (.var 22))
                  (.ret [(.var 1007)]))
                  (.ret [(.lit 0)]))))))))))))
              (.lett 669 .bit (.cmp .neq (.var 32) (.lit 0))
              (.split 669
               (.lett 861 .bit (.eqs [((.limb 18 0), (.lit 0)), ((.limb 18 1), (.lit 0)), ((.limb 18 2), (.lit 0)), ((.limb 18 3), (.lit 0)), ((.limb 18 4), (.lit 0)), ((.limb 18 5), (.lit 0))])
               (.lett 862 .bit (.not (.var 861))
               (.split 862
                (.ret [(.lit 0)])
                (.lett 1005 .bit (.cmp .eql (.var 33) (.lit 0))
                (.split 1005
                 (.req 14 [(.var 0), (.var 1), (.var 2), (.var 4)]
                 (.lett 1006 .bit (.app 14 0 [(.var 0), (.var 1), (.var 2), (.var 4)])
                 (.lett 1007 .bit (.cmp .eql (.var 22) (.var 1006))
                 (.split 1007
                  (.ret [(.lit 1)])
                  (.lett 1008 .bit (.cmp .neq (.var 33) (.lit 0))
                  (.split 1008
                   (.lett 1009 .bit (.not (.var 22))
                   (.ret [(.var 1009)]))
                   (.ret [(.lit 0)])))))))
                 (.lett 1006 .bit (.cmp .neq (.var 33) (.lit 0))
                 (.split 1006
                  (.lett 1007 .bit (.not (.var 22))
                  (.ret [(.var 1007)]))
                  (.ret [(.lit 0)]))))))))
               (.lett 1005 .bit (.cmp .eql (.var 33) (.lit 0))
               (.split 1005
                (.req 14 [(.var 0), (.var 1), (.var 2), (.var 4)]
                (.lett 1006 .bit (.app 14 0 [(.var 0), (.var 1), (.var 2), (.var 4)])
                (.lett 1007 .bit (.cmp .eql (.var 22) (.var 1006))
                (.split 1007
                 (.ret [(.lit 1)])
                 (.lett 1008 .bit (.cmp .neq (.var 33) (.lit 0))
                 (.split 1008
                  (.lett 1009 .bit (.not (.var 22))
                  (.ret [(.var 1009)]))
                  (.ret [(.lit 0)])))))))
                (.lett 1006 .bit (.cmp .neq (.var 33) (.lit 0))
                (.split 1006
                 (.lett 1007 .bit (.not (.var 22))
                 (.ret [(.var 1007)]))
                 (.ret [(.lit 0)]))))))))))))
            (.lett 91 .bit (.cmp .eql (.var 32) (.lit 0))
            (.split 91
             (.req 13 [(.var 0), (.var 1), (.var 2), (.var 3)]
             (.lett 427 .num (.app 13 0 [(.var 0), (.var 1), (.var 2), (.var 3)])
             (.lett 475 .bit (.eqs [((.limb 18 0), (.limb 427 0)), ((.limb 18 1), (.limb 427 1)), ((.limb 18 2), (.limb 427 2)), ((.limb 18 3), (.limb 427 3)), ((.limb 18 4), (.limb 427 4)), ((.limb 18 5), (.limb 427 5))])
             (.lett 476 .bit (.not (.var 475))
             (.split 476
              (.ret [(.lit 0)])
              (.lett 667 .bit (.cmp .neq (.var 32) (.lit 0))
              (.split 667
               (.lett 859 .bit (.eqs [((.limb 18 0), (.lit 0)), ((.limb 18 1), (.lit 0)), ((.limb 18 2), (.lit 0)), ((.limb 18 3), (.lit 0)), ((.limb 18 4), (.lit 0)), ((.limb 18 5), (.lit 0))])
               (.lett 860 .bit (.not (.var 859))
               (.split 860
                (.ret [(.lit 0)])
                (.lett 1003 .bit (.cmp .eql (.var 33) (.lit 0))
                (.split 1003
                 (.req 14 [(.var 0), (.var 1), (.var 2), (.var 4)]
                 (.lett 1004 .bit (.app 14 0 [(.var 0), (.var 1), (.var 2), (.var 4)])
                 (.lett 1005 .bit (.cmp .eql (.var 22) (.var 1004))
                 (.split 1005
                  (.ret [(.lit 1)])
                  (.lett 1006 .bit (.cmp .neq (.var 33) (.lit 0))
                  (.split 1006
                   (.lett 1007 .bit (.not (.var 22))
                   (.ret [(.var 1007)]))
                   (.ret [(.lit 0)])))))))
                 (.lett 1004 .bit (.cmp .neq (.var 33) (.lit 0))
                 (.split 1004
                  (.lett 1005 .bit (.not (.var 22))
                  (.ret [(.var 1005)]))
                  (.ret [(.lit 0)]))))))))
               (.lett 1003 .bit (.cmp .eql (.var 33) (.lit 0))
               (.split 1003
                (.req 14 [(.var 0), (.var 1), (.var 2), (.var 4)]
                (.lett 1004 .bit (.app 14 0 [(.var 0), (.var 1), (.var 2), (.var 4)])
                (.lett 1005 .bit (.cmp .eql (.var 22) (.var 1004))
                (.split 1005
                 (.ret [(.lit 1)])
                 (.lett 1006 .bit (.cmp .neq (.var 33) (.lit 0))
                 (.split 1006
                  (.lett 1007 .bit (.not (.var 22))
                  (.ret [(.var 1007)]))
                  (.ret [(.lit 0)])))))))
                (.lett 1004 .bit (.cmp .neq (.var 33) (.lit 0))
                (.split 1004
                 (.lett 1005 .bit (.not (.var 22))
                 (.ret [(.var 1005)]))
                 (.ret [(.lit 0)]))))))))))))
             (.lett 667 .bit (.cmp .neq (.var 32) (.lit 0))
             (.split 667
              (.lett 859 .bit (.eqs [((.limb 18 0), (.lit 0)), ((.limb 18 1), (.lit 0)), ((.limb 18 2), (.lit 0)), ((.limb 18 3), (.lit 0)), ((.limb 18 4), (.lit 0)), ((.limb 18 5), (.lit 0))])
              (.lett 860 .bit (.not (.var 859))
              (.split 860
               (.ret [(.lit 0)])
               (.lett 1003 .bit (.cmp .eql (.var 33) (.lit 0))
               (.split 1003
                (.req 14 [(.var 0), (.var 1), (.var 2), (.var 4)]
                (.lett 1004 .bit (.app 14 0 [(.var 0), (.var 1), (.var 2), (.var 4)])
                (.lett 1005 .bit (.cmp .eql (.var 22) (.var 1004))
                (.split 1005
                 (.ret [(.lit 1)])
                 (.lett 1006 .bit (.cmp .neq (.var 33) (.lit 0))
                 (.split 1006
                  (.lett 1007 .bit (.not (.var 22))
                  (.ret [(.var 1007)]))
                  (.ret [(.lit 0)])))))))
                (.lett 1004 .bit (.cmp .neq (.var 33) (.lit 0))
                (.split 1004
                 (.lett 1005 .bit (.not (.var 22))
                 (.ret [(.var 1005)]))
                 (.ret [(.lit 0)]))))))))
              (.lett 1003 .bit (.cmp .eql (.var 33) (.lit 0))
              (.split 1003
               (.req 14 [(.var 0), (.var 1), (.var 2), (.var 4)]
               (.lett 1004 .bit (.app 14 0 [(.var 0), (.var 1), (.var 2), (.var 4)])
               (.lett 1005 .bit (.cmp .eql (.var 22) (.var 1004))
               (.split 1005
                (.ret [(.lit 1)])
                (.lett 1006 .bit (.cmp .neq (.var 33) (.lit 0))
                (.split 1006
                 (.lett 1007 .bit (.not (.var 22))
                 (.ret [(.var 1007)]))
                 (.ret [(.lit 0)])))))))
               (.lett 1004 .bit (.cmp .neq (.var 33) (.lit 0))
               (.split 1004
                (.lett 1005 .bit (.not (.var 22))
                (.ret [(.var 1005)]))
                (.ret [(.lit 0)])))))))))))))))))
          (.lett 39 .bit (.cmp .neq (.var 31) (.lit 0))
          (.split 39
           (.lett 40 (.int .i64) (.llen (.var 14))
           (.lett 41 .bit (.cmp .neq (.var 40) (.lit 0))
           (.split 41
            (.ret [(.lit 0)])
            (.lett 90 .bit (.cmp .eql (.var 32) (.lit 0))
            (.split 90
             (.req 13 [(.var 0), (.var 1), (.var 2), (.var 3)]
             (.lett 426 .num (.app 13 0 [(.var 0), (.var 1), (.var 2), (.var 3)])
             (.lett 474 .bit (.eqs [((.limb 18 0), (.limb 426 0)), ((.limb 18 1), (.limb 426 1)), ((.limb 18 2), (.limb 426 2)), ((.limb 18 3), (.limb 426 3)), ((.limb 18 4), (.limb 426 4)), ((.limb 18 5), (.limb 426 5))])
             (.lett 475 .bit (.not (.var 474))
             (.split 475
              (.ret [(.lit 0)])
              (.lett 666 .bit (.cmp .neq (.var 32) (.lit 0))
              (.split 666
               (.lett 858 .bit (.eqs [((.limb 18 0), (.lit 0)), ((.limb 18 1), (.lit 0)), ((.limb 18 2), (.lit 0)), ((.limb 18 3), (.lit 0)), ((.limb 18 4), (.lit 0)), ((.limb 18 5), (.lit 0))])
               (.lett 859 .bit (.not (.var 858))
               (.split 859
                (.ret [(.lit 0)])
                (.lett 1002 .bit (.cmp .eql (.var 33) (.lit 0))
                (.split 1002
                 (.req 14 [(.var 0), (.var 1), (.var 2), (.var 4)]
                 (.lett 1003 .bit (.app 14 0 [(.var 0), (.var 1), (.var 2), (.var 4)])
                 (.lett 1004 .bit (.cmp .eql (.var 22) (.var 1003))
                 (.split 1004
                  (.ret [(.lit 1)])
                  (.lett 1005 .bit (.cmp .neq (.var 33) (.lit 0))
                  (.split 1005
                   (.lett 1006 .bit (.not (.var 22))
                   (.ret [(.var 1006)]))
                   (.ret [(.lit 0)])))))))
                 (.lett 1003 .bit (.cmp .neq (.var 33) (.lit 0))
                 (.split 1003
                  (.lett 1004 .bit (.not (.var 22))
                  (.ret [(.var 1004)]))
                  (.ret [(.lit 0)]))))))))
               (.lett 1002 .bit (.cmp .eql (.var 33) (.lit 0))
               (.split 1002
                (.req 14 [(.var 0), (.var 1), (.var 2), (.var 4)]
                (.lett 1003 .bit (.app 14 0 [(.var 0), (.var 1), (.var 2), (.var 4)])
                (.lett 1004 .bit (.cmp .eql (.var 22) (.var 1003))
                (.split 1004
                 (.ret [(.lit 1)])
                 (.lett 1005 .bit (.cmp .neq (.var 33) (.lit 0))
                 (.split 1005
                  (.lett 1006 .bit (.not (.var 22))
                  (.ret [(.var 1006)]))
                  (.ret [(.lit 0)])))))))
                (.lett 1003 .bit (.cmp .neq (.var 33) (.lit 0))
                (.split 1003
                 (.lett 1004 .bit (.not (.var 22))
                 (.ret [(.var 1004)]))
                 (.ret [(.lit 0)]))))))))))))
             (.lett 666 .bit (.cmp .neq (.var 32) (.lit 0))
             (.split 666
              (.lett 858 .bit (.eqs [((.limb 18 0), (.lit 0)), ((.limb 18 1), (.lit 0)), ((.limb 18 2), (.lit 0)), ((.limb 18 3), (.lit 0)), ((.limb 18 4), (.lit 0)), ((.limb 18 5), (.lit 0))])
              (.lett 859 .bit (.not (.var 858))
              (.split 859
               (.ret [(.lit 0)])
               (.lett 1002 .bit (.cmp .eql (.var 33) (.lit 0))
               (.split 1002
                (.req 14 [(.var 0), (.var 1), (.var 2), (.var 4)]
                (.lett 1003 .bit (.app 14 0 [(.var 0), (.var 1), (.var 2), (.var 4)])
                (.lett 1004 .bit (.cmp .eql (.var 22) (.var 1003))
                (.split 1004
                 (.ret [(.lit 1)])
                 (.lett 1005 .bit (.cmp .neq (.var 33) (.lit 0))
                 (.split 1005
                  (.lett 1006 .bit (.not (.var 22))
                  (.ret [(.var 1006)]))
                  (.ret [(.lit 0)])))))))
                (.lett 1003 .bit (.cmp .neq (.var 33) (.lit 0))
                (.split 1003
                 (.lett 1004 .bit (.not (.var 22))
                 (.ret [(.var 1004)]))
                 (.ret [(.lit 0)]))))))))
              (.lett 1002 .bit (.cmp .eql (.var 33) (.lit 0))
              (.split 1002
               (.req 14 [(.var 0), (.var 1), (.var 2), (.var 4)]
               (.lett 1003 .bit (.app 14 0 [(.var 0), (.var 1), (.var 2), (.var 4)])
               (.lett 1004 .bit (.cmp .eql (.var 22) (.var 1003))
               (.split 1004
                (.ret [(.lit 1)])
                (.lett 1005 .bit (.cmp .neq (.var 33) (.lit 0))
                (.split 1005
                 (.lett 1006 .bit (.not (.var 22))
                 (.ret [(.var 1006)]))
                 (.ret [(.lit 0)])))))))
               (.lett 1003 .bit (.cmp .neq (.var 33) (.lit 0))
               (.split 1003
                (.lett 1004 .bit (.not (.var 22))
                (.ret [(.var 1004)]))
                (.ret [(.lit 0)]))))))))))))
           (.lett 88 .bit (.cmp .eql (.var 32) (.lit 0))
           (.split 88
            (.req 13 [(.var 0), (.var 1), (.var 2), (.var 3)]
            (.lett 424 .num (.app 13 0 [(.var 0), (.var 1), (.var 2), (.var 3)])
            (.lett 472 .bit (.eqs [((.limb 18 0), (.limb 424 0)), ((.limb 18 1), (.limb 424 1)), ((.limb 18 2), (.limb 424 2)), ((.limb 18 3), (.limb 424 3)), ((.limb 18 4), (.limb 424 4)), ((.limb 18 5), (.limb 424 5))])
            (.lett 473 .bit (.not (.var 472))
            (.split 473
             (.ret [(.lit 0)])
             (.lett 664 .bit (.cmp .neq (.var 32) (.lit 0))
             (.split 664
              (.lett 856 .bit (.eqs [((.limb 18 0), (.lit 0)), ((.limb 18 1), (.lit 0)), ((.limb 18 2), (.lit 0)), ((.limb 18 3), (.lit 0)), ((.limb 18 4), (.lit 0)), ((.limb 18 5), (.lit 0))])
              (.lett 857 .bit (.not (.var 856))
              (.split 857
               (.ret [(.lit 0)])
               (.lett 1000 .bit (.cmp .eql (.var 33) (.lit 0))
               (.split 1000
                (.req 14 [(.var 0), (.var 1), (.var 2), (.var 4)]
                (.lett 1001 .bit (.app 14 0 [(.var 0), (.var 1), (.var 2), (.var 4)])
                (.lett 1002 .bit (.cmp .eql (.var 22) (.var 1001))
                (.split 1002
                 (.ret [(.lit 1)])
                 (.lett 1003 .bit (.cmp .neq (.var 33) (.lit 0))
                 (.split 1003
                  (.lett 1004 .bit (.not (.var 22))
                  (.ret [(.var 1004)]))
                  (.ret [(.lit 0)])))))))
                (.lett 1001 .bit (.cmp .neq (.var 33) (.lit 0))
                (.split 1001
                 (.lett 1002 .bit (.not (.var 22))
                 (.ret [(.var 1002)]))
                 (.ret [(.lit 0)]))))))))
              (.lett 1000 .bit (.cmp .eql (.var 33) (.lit 0))
              (.split 1000
               (.req 14 [(.var 0), (.var 1), (.var 2), (.var 4)]
               (.lett 1001 .bit (.app 14 0 [(.var 0), (.var 1), (.var 2), (.var 4)])
               (.lett 1002 .bit (.cmp .eql (.var 22) (.var 1001))
               (.split 1002
                (.ret [(.lit 1)])
                (.lett 1003 .bit (.cmp .neq (.var 33) (.lit 0))
                (.split 1003
                 (.lett 1004 .bit (.not (.var 22))
                 (.ret [(.var 1004)]))
                 (.ret [(.lit 0)])))))))
               (.lett 1001 .bit (.cmp .neq (.var 33) (.lit 0))
               (.split 1001
                (.lett 1002 .bit (.not (.var 22))
                (.ret [(.var 1002)]))
                (.ret [(.lit 0)]))))))))))))
            (.lett 664 .bit (.cmp .neq (.var 32) (.lit 0))
            (.split 664
             (.lett 856 .bit (.eqs [((.limb 18 0), (.lit 0)), ((.limb 18 1), (.lit 0)), ((.limb 18 2), (.lit 0)), ((.limb 18 3), (.lit 0)), ((.limb 18 4), (.lit 0)), ((.limb 18 5), (.lit 0))])
             (.lett 857 .bit (.not (.var 856))
             (.split 857
              (.ret [(.lit 0)])
              (.lett 1000 .bit (.cmp .eql (.var 33) (.lit 0))
              (.split 1000
               (.req 14 [(.var 0), (.var 1), (.var 2), (.var 4)]
               (.lett 1001 .bit (.app 14 0 [(.var 0), (.var 1), (.var 2), (.var 4)])
               (.lett 1002 .bit (.cmp .eql (.var 22) (.var 1001))
               (.split 1002
                (.ret [(.lit 1)])
                (.lett 1003 .bit (.cmp .neq (.var 33) (.lit 0))
                (.split 1003
                 (.lett 1004 .bit (.not (.var 22))
                 (.ret [(.var 1004)]))
                 (.ret [(.lit 0)])))))))
               (.lett 1001 .bit (.cmp .neq (.var 33) (.lit 0))
               (.split 1001
                (.lett 1002 .bit (.not (.var 22))
                (.ret [(.var 1002)]))
                (.ret [(.lit 0)]))))))))
             (.lett 1000 .bit (.cmp .eql (.var 33) (.lit 0))
             (.split 1000
              (.req 14 [(.var 0), (.var 1), (.var 2), (.var 4)]
              (.lett 1001 .bit (.app 14 0 [(.var 0), (.var 1), (.var 2), (.var 4)])
              (.lett 1002 .bit (.cmp .eql (.var 22) (.var 1001))
              (.split 1002
               (.ret [(.lit 1)])
               (.lett 1003 .bit (.cmp .neq (.var 33) (.lit 0))
               (.split 1003
                (.lett 1004 .bit (.not (.var 22))
                (.ret [(.var 1004)]))
                (.ret [(.lit 0)])))))))
              (.lett 1001 .bit (.cmp .neq (.var 33) (.lit 0))
              (.split 1001
               (.lett 1002 .bit (.not (.var 22))
               (.ret [(.var 1002)]))
               (.ret [(.lit 0)]))))))))))))))))))))))))))))
     (.req 10 [(.var 0), (.var 1), (.var 2), (.var 3)]
     (.lett 30 (.int .i64) (.app 10 0 [(.var 0), (.var 1), (.var 2), (.var 3)])
     (.req 10 [(.var 0), (.var 1), (.var 2), (.lit 0)]
     (.lett 31 (.int .i64) (.app 10 0 [(.var 0), (.var 1), (.var 2), (.lit 0)])
     (.lett 32 .bit (.cmp .eql (.var 31) (.lit 0))
     (.split 32
      (.lett 33 .bit (.cmp .lss (.var 4) (.lit 0))
      (.split 33
       (.lett 34 .bit (.cmp .neq (.var 15) (.var 28))
       (.split 34
        (.ret [(.lit 0)])
        (.lett 35 .bit (.cmp .neq (.var 19) (.var 30))
        (.split 35
         (.ret [(.lit 0)])
         (.lett 36 .bit (.cmp .neq (.var 23) (.lit 2))
         (.split 36
          (.ret [(.lit 0)])
          (.lett 37 .bit (.cmp .eql (.var 28) (.lit 0))
          (.split 37
           (.req 12 [(.var 0), (.var 1), (.var 3)]
           (.lett 38 (.lst .num) (.app 12 0 [(.var 0), (.var 1), (.var 3)])
           (.req 11 [(.var 14), (.var 38)]
           (.lett 39 .bit (.app 11 0 [(.var 14), (.var 38)])
           (.lett 40 .bit (.not (.var 39))
           (.split 40
            (.ret [(.lit 0)])
            (.lett 41 .bit (.cmp .neq (.var 28) (.lit 0))
            (.split 41
             (.lett 42 (.int .i64) (.llen (.var 14))
             (.lett 43 .bit (.cmp .neq (.var 42) (.lit 0))
             (.split 43
              (.ret [(.lit 0)])
              (.lett 92 .bit (.cmp .eql (.var 30) (.lit 0))
              (.split 92
               (.req 13 [(.var 0), (.var 1), (.var 2), (.var 3)]
               (.lett 428 .num (.app 13 0 [(.var 0), (.var 1), (.var 2), (.var 3)])
               (.lett 476 .bit (.eqs [((.limb 18 0), (.limb 428 0)), ((.limb 18 1), (.limb 428 1)), ((.limb 18 2), (.limb 428 2)), ((.limb 18 3), (.limb 428 3)), ((.limb 18 4), (.limb 428 4)), ((.limb 18 5), (.limb 428 5))])
               (.lett 477 .bit (.not (.var 476))
               (.split 477
                (.ret [(.lit 0)])
                (.lett 668 .bit (.cmp .neq (.var 30) (.lit 0))
                (.split 668
                 (.lett 860 .bit (.eqs [((.limb 18 0), (.lit 0)), ((.limb 18 1), (.lit 0)), ((.limb 18 2), (.lit 0)), ((.limb 18 3), (.lit 0)), ((.limb 18 4), (.lit 0)), ((.limb 18 5), (.lit 0))])
                 (.lett 861 .bit (.not (.var 860))
                 (.split 861
                  (.ret [(.lit 0)])
                  (.lett 1004 .bit (.not (.var 22))
                  (.ret [(.var 1004)])))))
                 (.lett 1004 .bit (.not (.var 22))
                 (.ret [(.var 1004)])))))))))
               (.lett 668 .bit (.cmp .neq (.var 30) (.lit 0))
               (.split 668
                (.lett 860 .bit (.eqs [((.limb 18 0), (.lit 0)), ((.limb 18 1), (.lit 0)), ((.limb 18 2), (.lit 0)), ((.limb 18 3), (.lit 0)), ((.limb 18 4), (.lit 0)), ((.limb 18 5), (.lit 0))])
                (.lett 861 .bit (.not (.var 860))
                (.split 861
                 (.ret [(.lit 0)])
                 (.lett 1004 .bit (.not (.var 22))
                 (.ret [(.var 1004)])))))
                (.lett 1004 .bit (.not (.var 22))
                (.ret [(.var 1004)])))))))))
             (.lett 90 .bit (.cmp .eql (.var 30) (.lit 0))
             (.split 90
              (.req 13 [(.var 0), (.var 1), (.var 2), (.var 3)]
              (.lett 426 .num (.app 13 0 [(.var 0), (.var 1), (.var 2), (.var 3)])
              (.lett 474 .bit (.eqs [((.limb 18 0), (.limb 426 0)), ((.limb 18 1), (.limb 426 1)), ((.limb 18 2), (.limb 426 2)), ((.limb 18 3), (.limb 426 3)), ((.limb 18 4), (.limb 426 4)), ((.limb 18 5), (.limb 426 5))])
              (.lett 475 .bit (.not (.var 474))
              (.split 475
               (.ret [(.lit 0)])
               (.lett 666 .bit (.cmp .neq (.var 30) (.lit 0))
               (.split 666
                (.lett 858 .bit (.eqs [((.limb 18 0), (.lit 0)), ((.limb 18 1), (.lit 0)), ((.limb 18 2), (.lit 0)), ((.limb 18 3), (.lit 0)), ((.limb 18 4), (.lit 0)), ((.limb 18 5), (.lit 0))])
                (.lett 859 .bit (.not (.var 858))
                (.split 859
                 (.ret [(.lit 0)])
                 (.lett 1002 .bit (.not (.var 22))
                 (.ret [(.var 1002)])))))
                (.lett 1002 .bit (.not (.var 22))
                (.ret [(.var 1002)])))))))))
              (.lett 666 .bit (.cmp .neq (.var 30) (.lit 0))
              (.split 666
               (.lett 858 .bit (.eqs [((.limb 18 0), (.lit 0)), ((.limb 18 1), (.lit 0)), ((.limb 18 2), (.lit 0)), ((.limb 18 3), (.lit 0)), ((.limb 18 4), (.lit 0)), ((.limb 18 5), (.lit 0))])
               (.lett 859 .bit (.not (.var 858))
               (.split 859
                (.ret [(.lit 0)])
                (.lett 1002 .bit (.not (.var 22))
                (.ret [(.var 1002)])))))
               (.lett 1002 .bit (.not (.var 22))
               (.ret [(.var 1002)]))))))))))))))
           (.lett 38 .bit (.cmp .neq (.var 28) (.lit 0))
           (.split 38
            (.lett 39 (.int .i64) (.llen (.var 14))
            (.lett 40 .bit (.cmp .neq (.var 39) (.lit 0))
            (.split 40
             (.ret [(.lit 0)])
             (.lett 89 .bit (.cmp .eql (.var 30) (.lit 0))
             (.split 89
              (.req 13 [(.var 0), (.var 1), (.var 2), (.var 3)]
              (.lett 425 .num (.app 13 0 [(.var 0), (.var 1), (.var 2), (.var 3)])
              (.lett 473 .bit (.eqs [((.limb 18 0), (.limb 425 0)), ((.limb 18 1), (.limb 425 1)), ((.limb 18 2), (.limb 425 2)), ((.limb 18 3), (.limb 425 3)), ((.limb 18 4), (.limb 425 4)), ((.limb 18 5), (.limb 425 5))])
              (.lett 474 .bit (.not (.var 473))
              (.split 474
               (.ret [(.lit 0)])
               (.lett 665 .bit (.cmp .neq (.var 30) (.lit 0))
               (.split 665
                (.lett 857 .bit (.eqs [((.limb 18 0), (.lit 0)), ((.limb 18 1), (.lit 0)), ((.limb 18 2), (.lit 0)), ((.limb 18 3), (.lit 0)), ((.limb 18 4), (.lit 0)), ((.limb 18 5), (.lit 0))])
                (.lett 858 .bit (.not (.var 857))
                (.split 858
                 (.ret [(.lit 0)])
                 (.lett 1001 .bit (.not (.var 22))
                 (.ret [(.var 1001)])))))
                (.lett 1001 .bit (.not (.var 22))
                (.ret [(.var 1001)])))))))))
              (.lett 665 .bit (.cmp .neq (.var 30) (.lit 0))
              (.split 665
               (.lett 857 .bit (.eqs [((.limb 18 0), (.lit 0)), ((.limb 18 1), (.lit 0)), ((.limb 18 2), (.lit 0)), ((.limb 18 3), (.lit 0)), ((.limb 18 4), (.lit 0)), ((.limb 18 5), (.lit 0))])
               (.lett 858 .bit (.not (.var 857))
               (.split 858
                (.ret [(.lit 0)])
                (.lett 1001 .bit (.not (.var 22))
                (.ret [(.var 1001)])))))
               (.lett 1001 .bit (.not (.var 22))
               (.ret [(.var 1001)])))))))))
            (.lett 87 .bit (.cmp .eql (.var 30) (.lit 0))
            (.split 87
             (.req 13 [(.var 0), (.var 1), (.var 2), (.var 3)]
             (.lett 423 .num (.app 13 0 [(.var 0), (.var 1), (.var 2), (.var 3)])
             (.lett 471 .bit (.eqs [((.limb 18 0), (.limb 423 0)), ((.limb 18 1), (.limb 423 1)), ((.limb 18 2), (.limb 423 2)), ((.limb 18 3), (.limb 423 3)), ((.limb 18 4), (.limb 423 4)), ((.limb 18 5), (.limb 423 5))])
             (.lett 472 .bit (.not (.var 471))
             (.split 472
              (.ret [(.lit 0)])
              (.lett 663 .bit (.cmp .neq (.var 30) (.lit 0))
              (.split 663
               (.lett 855 .bit (.eqs [((.limb 18 0), (.lit 0)), ((.limb 18 1), (.lit 0)), ((.limb 18 2), (.lit 0)), ((.limb 18 3), (.lit 0)), ((.limb 18 4), (.lit 0)), ((.limb 18 5), (.lit 0))])
               (.lett 856 .bit (.not (.var 855))
               (.split 856
                (.ret [(.lit 0)])
                (.lett 999 .bit (.not (.var 22))
                (.ret [(.var 999)])))))
               (.lett 999 .bit (.not (.var 22))
               (.ret [(.var 999)])))))))))
             (.lett 663 .bit (.cmp .neq (.var 30) (.lit 0))
             (.split 663
              (.lett 855 .bit (.eqs [((.limb 18 0), (.lit 0)), ((.limb 18 1), (.lit 0)), ((.limb 18 2), (.lit 0)), ((.limb 18 3), (.lit 0)), ((.limb 18 4), (.lit 0)), ((.limb 18 5), (.lit 0))])
              (.lett 856 .bit (.not (.var 855))
              (.split 856
               (.ret [(.lit 0)])
               (.lett 999 .bit (.not (.var 22))
               (.ret [(.var 999)])))))
              (.lett 999 .bit (.not (.var 22))
              (.ret [(.var 999)]))))))))))))))))
       (.lett 34 .bit (.cmp .gtr (.var 4) (.lit 1000))
       (.split 34
        (.lett 35 .bit (.cmp .neq (.var 15) (.var 28))
        (.split 35
         (.ret [(.lit 0)])
         (.lett 36 .bit (.cmp .neq (.var 19) (.var 30))
         (.split 36
          (.ret [(.lit 0)])
          (.lett 37 .bit (.cmp .neq (.var 23) (.lit 2))
          (.split 37
           (.ret [(.lit 0)])
           (.lett 38 .bit (.cmp .eql (.var 28) (.lit 0))
           (.split 38
            (.req 12 [(.var 0), (.var 1), (.var 3)]
            (.lett 39 (.lst .num) (.app 12 0 [(.var 0), (.var 1), (.var 3)])
            (.req 11 [(.var 14), (.var 39)]
            (.lett 40 .bit (.app 11 0 [(.var 14), (.var 39)])
            (.lett 41 .bit (.not (.var 40))
            (.split 41
             (.ret [(.lit 0)])
             (.lett 42 .bit (.cmp .neq (.var 28) (.lit 0))
             (.split 42
              (.lett 43 (.int .i64) (.llen (.var 14))
              (.lett 44 .bit (.cmp .neq (.var 43) (.lit 0))
              (.split 44
               (.ret [(.lit 0)])
               (.lett 93 .bit (.cmp .eql (.var 30) (.lit 0))
               (.split 93
                (.req 13 [(.var 0), (.var 1), (.var 2), (.var 3)]
                (.lett 429 .num (.app 13 0 [(.var 0), (.var 1), (.var 2), (.var 3)])
                (.lett 477 .bit (.eqs [((.limb 18 0), (.limb 429 0)), ((.limb 18 1), (.limb 429 1)), ((.limb 18 2), (.limb 429 2)), ((.limb 18 3), (.limb 429 3)), ((.limb 18 4), (.limb 429 4)), ((.limb 18 5), (.limb 429 5))])
                (.lett 478 .bit (.not (.var 477))
                (.split 478
                 (.ret [(.lit 0)])
                 (.lett 669 .bit (.cmp .neq (.var 30) (.lit 0))
                 (.split 669
                  (.lett 861 .bit (.eqs [((.limb 18 0), (.lit 0)), ((.limb 18 1), (.lit 0)), ((.limb 18 2), (.lit 0)), ((.limb 18 3), (.lit 0)), ((.limb 18 4), (.lit 0)), ((.limb 18 5), (.lit 0))])
                  (.lett 862 .bit (.not (.var 861))
                  (.split 862
                   (.ret [(.lit 0)])
                   (.lett 1005 .bit (.not (.var 22))
                   (.ret [(.var 1005)])))))
                  (.lett 1005 .bit (.not (.var 22))
                  (.ret [(.var 1005)])))))))))
                (.lett 669 .bit (.cmp .neq (.var 30) (.lit 0))
                (.split 669
                 (.lett 861 .bit (.eqs [((.limb 18 0), (.lit 0)), ((.limb 18 1), (.lit 0)), ((.limb 18 2), (.lit 0)), ((.limb 18 3), (.lit 0)), ((.limb 18 4), (.lit 0)), ((.limb 18 5), (.lit 0))])
                 (.lett 862 .bit (.not (.var 861))
                 (.split 862
                  (.ret [(.lit 0)])
                  (.lett 1005 .bit (.not (.var 22))
                  (.ret [(.var 1005)])))))
                 (.lett 1005 .bit (.not (.var 22))
                 (.ret [(.var 1005)])))))))))
              (.lett 91 .bit (.cmp .eql (.var 30) (.lit 0))
              (.split 91
               (.req 13 [(.var 0), (.var 1), (.var 2), (.var 3)]
               (.lett 427 .num (.app 13 0 [(.var 0), (.var 1), (.var 2), (.var 3)])
               (.lett 475 .bit (.eqs [((.limb 18 0), (.limb 427 0)), ((.limb 18 1), (.limb 427 1)), ((.limb 18 2), (.limb 427 2)), ((.limb 18 3), (.limb 427 3)), ((.limb 18 4), (.limb 427 4)), ((.limb 18 5), (.limb 427 5))])
               (.lett 476 .bit (.not (.var 475))
               (.split 476
                (.ret [(.lit 0)])
                (.lett 667 .bit (.cmp .neq (.var 30) (.lit 0))
                (.split 667
                 (.lett 859 .bit (.eqs [((.limb 18 0), (.lit 0)), ((.limb 18 1), (.lit 0)), ((.limb 18 2), (.lit 0)), ((.limb 18 3), (.lit 0)), ((.limb 18 4), (.lit 0)), ((.limb 18 5), (.lit 0))])
                 (.lett 860 .bit (.not (.var 859))
                 (.split 860
                  (.ret [(.lit 0)])
                  (.lett 1003 .bit (.not (.var 22))
                  (.ret [(.var 1003)])))))
                 (.lett 1003 .bit (.not (.var 22))
                 (.ret [(.var 1003)])))))))))
               (.lett 667 .bit (.cmp .neq (.var 30) (.lit 0))
               (.split 667
                (.lett 859 .bit (.eqs [((.limb 18 0), (.lit 0)), ((.limb 18 1), (.lit 0)), ((.limb 18 2), (.lit 0)), ((.limb 18 3), (.lit 0)), ((.limb 18 4), (.lit 0)), ((.limb 18 5), (.lit 0))])
                (.lett 860 .bit (.not (.var 859))
                (.split 860
                 (.ret [(.lit 0)])
                 (.lett 1003 .bit (.not (.var 22))
                 (.ret [(.var 1003)])))))
                (.lett 1003 .bit (.not (.var 22))
                (.ret [(.var 1003)]))))))))))))))
            (.lett 39 .bit (.cmp .neq (.var 28) (.lit 0))
            (.split 39
             (.lett 40 (.int .i64) (.llen (.var 14))
             (.lett 41 .bit (.cmp .neq (.var 40) (.lit 0))
             (.split 41
              (.ret [(.lit 0)])
              (.lett 90 .bit (.cmp .eql (.var 30) (.lit 0))
              (.split 90
               (.req 13 [(.var 0), (.var 1), (.var 2), (.var 3)]
               (.lett 426 .num (.app 13 0 [(.var 0), (.var 1), (.var 2), (.var 3)])
               (.lett 474 .bit (.eqs [((.limb 18 0), (.limb 426 0)), ((.limb 18 1), (.limb 426 1)), ((.limb 18 2), (.limb 426 2)), ((.limb 18 3), (.limb 426 3)), ((.limb 18 4), (.limb 426 4)), ((.limb 18 5), (.limb 426 5))])
               (.lett 475 .bit (.not (.var 474))
               (.split 475
                (.ret [(.lit 0)])
                (.lett 666 .bit (.cmp .neq (.var 30) (.lit 0))
                (.split 666
                 (.lett 858 .bit (.eqs [((.limb 18 0), (.lit 0)), ((.limb 18 1), (.lit 0)), ((.limb 18 2), (.lit 0)), ((.limb 18 3), (.lit 0)), ((.limb 18 4), (.lit 0)), ((.limb 18 5), (.lit 0))])
                 (.lett 859 .bit (.not (.var 858))
                 (.split 859
                  (.ret [(.lit 0)])
                  (.lett 1002 .bit (.not (.var 22))
                  (.ret [(.var 1002)])))))
                 (.lett 1002 .bit (.not (.var 22))
                 (.ret [(.var 1002)])))))))))
               (.lett 666 .bit (.cmp .neq (.var 30) (.lit 0))
               (.split 666
                (.lett 858 .bit (.eqs [((.limb 18 0), (.lit 0)), ((.limb 18 1), (.lit 0)), ((.limb 18 2), (.lit 0)), ((.limb 18 3), (.lit 0)), ((.limb 18 4), (.lit 0)), ((.limb 18 5), (.lit 0))])
                (.lett 859 .bit (.not (.var 858))
                (.split 859
                 (.ret [(.lit 0)])
                 (.lett 1002 .bit (.not (.var 22))
                 (.ret [(.var 1002)])))))
                (.lett 1002 .bit (.not (.var 22))
                (.ret [(.var 1002)])))))))))
             (.lett 88 .bit (.cmp .eql (.var 30) (.lit 0))
             (.split 88
              (.req 13 [(.var 0), (.var 1), (.var 2), (.var 3)]
              (.lett 424 .num (.app 13 0 [(.var 0), (.var 1), (.var 2), (.var 3)])
              (.lett 472 .bit (.eqs [((.limb 18 0), (.limb 424 0)), ((.limb 18 1), (.limb 424 1)), ((.limb 18 2), (.limb 424 2)), ((.limb 18 3), (.limb 424 3)), ((.limb 18 4), (.limb 424 4)), ((.limb 18 5), (.limb 424 5))])
              (.lett 473 .bit (.not (.var 472))
              (.split 473
               (.ret [(.lit 0)])
               (.lett 664 .bit (.cmp .neq (.var 30) (.lit 0))
               (.split 664
                (.lett 856 .bit (.eqs [((.limb 18 0), (.lit 0)), ((.limb 18 1), (.lit 0)), ((.limb 18 2), (.lit 0)), ((.limb 18 3), (.lit 0)), ((.limb 18 4), (.lit 0)), ((.limb 18 5), (.lit 0))])
                (.lett 857 .bit (.not (.var 856))
                (.split 857
                 (.ret [(.lit 0)])
                 (.lett 1000 .bit (.not (.var 22))
                 (.ret [(.var 1000)])))))
                (.lett 1000 .bit (.not (.var 22))
                (.ret [(.var 1000)])))))))))
              (.lett 664 .bit (.cmp .neq (.var 30) (.lit 0))
              (.split 664
               (.lett 856 .bit (.eqs [((.limb 18 0), (.lit 0)), ((.limb 18 1), (.lit 0)), ((.limb 18 2), (.lit 0)), ((.limb 18 3), (.lit 0)), ((.limb 18 4), (.lit 0)), ((.limb 18 5), (.lit 0))])
               (.lett 857 .bit (.not (.var 856))
               (.split 857
                (.ret [(.lit 0)])
                (.lett 1000 .bit (.not (.var 22))
                (.ret [(.var 1000)])))))
               (.lett 1000 .bit (.not (.var 22))
               (.ret [(.var 1000)]))))))))))))))))
        (.lett 35 .bit (.cmp .neq (.var 15) (.var 28))
        (.split 35
         (.ret [(.lit 0)])
         (.lett 36 .bit (.cmp .neq (.var 19) (.var 30))
         (.split 36
          (.ret [(.lit 0)])
          (.lett 37 .bit (.cmp .neq (.var 23) (.var 31))
          (.split 37
           (.ret [(.lit 0)])
           (.lett 38 .bit (.cmp .eql (.var 28) (.lit 0))
           (.split 38
            (.req 12 [(.var 0), (.var 1), (.var 3)]
            (.lett 39 (.lst .num) (.app 12 0 [(.var 0), (.var 1), (.var 3)])
            (.req 11 [(.var 14), (.var 39)]
            (.lett 40 .bit (.app 11 0 [(.var 14), (.var 39)])
            (.lett 41 .bit (.not (.var 40))
            (.split 41
             (.ret [(.lit 0)])
             (.lett 42 .bit (.cmp .neq (.var 28) (.lit 0))
             (.split 42
              (.lett 43 (.int .i64) (.llen (.var 14))
              (.lett 44 .bit (.cmp .neq (.var 43) (.lit 0))
              (.split 44
               (.ret [(.lit 0)])
               (.lett 93 .bit (.cmp .eql (.var 30) (.lit 0))
               (.split 93
                (.req 13 [(.var 0), (.var 1), (.var 2), (.var 3)]
                (.lett 429 .num (.app 13 0 [(.var 0), (.var 1), (.var 2), (.var 3)])
                (.lett 477 .bit (.eqs [((.limb 18 0), (.limb 429 0)), ((.limb 18 1), (.limb 429 1)), ((.limb 18 2), (.limb 429 2)), ((.limb 18 3), (.limb 429 3)), ((.limb 18 4), (.limb 429 4)), ((.limb 18 5), (.limb 429 5))])
                (.lett 478 .bit (.not (.var 477))
                (.split 478
                 (.ret [(.lit 0)])
                 (.lett 669 .bit (.cmp .neq (.var 30) (.lit 0))
                 (.split 669
                  (.lett 861 .bit (.eqs [((.limb 18 0), (.lit 0)), ((.limb 18 1), (.lit 0)), ((.limb 18 2), (.lit 0)), ((.limb 18 3), (.lit 0)), ((.limb 18 4), (.lit 0)), ((.limb 18 5), (.lit 0))])
                  (.lett 862 .bit (.not (.var 861))
                  (.split 862
                   (.ret [(.lit 0)])
                   (.lett 1005 .bit (.cmp .eql (.var 31) (.lit 0))
                   (.split 1005
                    (.req 14 [(.var 0), (.var 1), (.var 2), (.var 4)]
                    (.lett 1006 .bit (.app 14 0 [(.var 0), (.var 1), (.var 2), (.var 4)])
                    (.lett 1007 .bit (.cmp .eql (.var 22) (.var 1006))
                    (.split 1007
                     (.ret [(.lit 1)])
                     (.lett 1008 .bit (.cmp .neq (.var 31) (.lit 0))
                     (.split 1008
                      (.lett 1009 .bit (.not (.var 22))
                      (.ret [(.var 1009)]))
                      (.ret [(.lit 0)])))))))
                    (.lett 1006 .bit (.cmp .neq (.var 31) (.lit 0))
                    (.split 1006
                     (.lett 1007 .bit (.not (.var 22))
                     (.ret [(.var 1007)]))
                     (.ret [(.lit 0)]))))))))
                  (.lett 1005 .bit (.cmp .eql (.var 31) (.lit 0))
                  (.split 1005
                   (.req 14 [(.var 0), (.var 1), (.var 2), (.var 4)]
                   (.lett 1006 .bit (.app 14 0 [(.var 0), (.var 1), (.var 2), (.var 4)])
                   (.lett 1007 .bit (.cmp .eql (.var 22) (.var 1006))
                   (.split 1007
                    (.ret [(.lit 1)])
                    (.lett 1008 .bit (.cmp .neq (.var 31) (.lit 0))
                    (.split 1008
                     (.lett 1009 .bit (.not (.var 22))
                     (.ret [(.var 1009)]))
                     (.ret [(.lit 0)])))))))
                   (.lett 1006 .bit (.cmp .neq (.var 31) (.lit 0))
                   (.split 1006
                    (.lett 1007 .bit (.not (.var 22))
                    (.ret [(.var 1007)]))
                    (.ret [(.lit 0)]))))))))))))
                (.lett 669 .bit (.cmp .neq (.var 30) (.lit 0))
                (.split 669
                 (.lett 861 .bit (.eqs [((.limb 18 0), (.lit 0)), ((.limb 18 1), (.lit 0)), ((.limb 18 2), (.lit 0)), ((.limb 18 3), (.lit 0)), ((.limb 18 4), (.lit 0)), ((.limb 18 5), (.lit 0))])
                 (.lett 862 .bit (.not (.var 861))
                 (.split 862
                  (.ret [(.lit 0)])
                  (.lett 1005 .bit (.cmp .eql (.var 31) (.lit 0))
                  (.split 1005
                   (.req 14 [(.var 0), (.var 1), (.var 2), (.var 4)]
                   (.lett 1006 .bit (.app 14 0 [(.var 0), (.var 1), (.var 2), (.var 4)])
                   (.lett 1007 .bit (.cmp .eql (.var 22) (.var 1006))
                   (.split 1007
                    (.ret [(.lit 1)])
                    (.lett 1008 .bit (.cmp .neq (.var 31) (.lit 0))
                    (.split 1008
                     (.lett 1009 .bit (.not (.var 22))
                     (.ret [(.var 1009)]))
                     (.ret [(.lit 0)])))))))
                   (.lett 1006 .bit (.cmp .neq (.var 31) (.lit 0))
                   (.split 1006
                    (.lett 1007 .bit (.not (.var 22))
                    (.ret [(.var 1007)]))
                    (.ret [(.lit 0)]))))))))
                 (.lett 1005 .bit (.cmp .eql (.var 31) (.lit 0))
                 (.split 1005
                  (.req 14 [(.var 0), (.var 1), (.var 2), (.var 4)]
                  (.lett 1006 .bit (.app 14 0 [(.var 0), (.var 1), (.var 2), (.var 4)])
                  (.lett 1007 .bit (.cmp .eql (.var 22) (.var 1006))
                  (.split 1007
                   (.ret [(.lit 1)])
                   (.lett 1008 .bit (.cmp .neq (.var 31) (.lit 0))
                   (.split 1008
                    (.lett 1009 .bit (.not (.var 22))
                    (.ret [(.var 1009)]))
                    (.ret [(.lit 0)])))))))
                  (.lett 1006 .bit (.cmp .neq (.var 31) (.lit 0))
                  (.split 1006
                   (.lett 1007 .bit (.not (.var 22))
                   (.ret [(.var 1007)]))
                   (.ret [(.lit 0)]))))))))))))
              (.lett 91 .bit (.cmp .eql (.var 30) (.lit 0))
              (.split 91
               (.req 13 [(.var 0), (.var 1), (.var 2), (.var 3)]
               (.lett 427 .num (.app 13 0 [(.var 0), (.var 1), (.var 2), (.var 3)])
               (.lett 475 .bit (.eqs [((.limb 18 0), (.limb 427 0)), ((.limb 18 1), (.limb 427 1)), ((.limb 18 2), (.limb 427 2)), ((.limb 18 3), (.limb 427 3)), ((.limb 18 4), (.limb 427 4)), ((.limb 18 5), (.limb 427 5))])
               (.lett 476 .bit (.not (.var 475))
               (.split 476
                (.ret [(.lit 0)])
                (.lett 667 .bit (.cmp .neq (.var 30) (.lit 0))
                (.split 667
                 (.lett 859 .bit (.eqs [((.limb 18 0), (.lit 0)), ((.limb 18 1), (.lit 0)), ((.limb 18 2), (.lit 0)), ((.limb 18 3), (.lit 0)), ((.limb 18 4), (.lit 0)), ((.limb 18 5), (.lit 0))])
                 (.lett 860 .bit (.not (.var 859))
                 (.split 860
                  (.ret [(.lit 0)])
                  (.lett 1003 .bit (.cmp .eql (.var 31) (.lit 0))
                  (.split 1003
                   (.req 14 [(.var 0), (.var 1), (.var 2), (.var 4)]
                   (.lett 1004 .bit (.app 14 0 [(.var 0), (.var 1), (.var 2), (.var 4)])
                   (.lett 1005 .bit (.cmp .eql (.var 22) (.var 1004))
                   (.split 1005
                    (.ret [(.lit 1)])
                    (.lett 1006 .bit (.cmp .neq (.var 31) (.lit 0))
                    (.split 1006
                     (.lett 1007 .bit (.not (.var 22))
                     (.ret [(.var 1007)]))
                     (.ret [(.lit 0)])))))))
                   (.lett 1004 .bit (.cmp .neq (.var 31) (.lit 0))
                   (.split 1004
                    (.lett 1005 .bit (.not (.var 22))
                    (.ret [(.var 1005)]))
                    (.ret [(.lit 0)]))))))))
                 (.lett 1003 .bit (.cmp .eql (.var 31) (.lit 0))
                 (.split 1003
                  (.req 14 [(.var 0), (.var 1), (.var 2), (.var 4)]
                  (.lett 1004 .bit (.app 14 0 [(.var 0), (.var 1), (.var 2), (.var 4)])
                  (.lett 1005 .bit (.cmp .eql (.var 22) (.var 1004))
                  (.split 1005
                   (.ret [(.lit 1)])
                   (.lett 1006 .bit (.cmp .neq (.var 31) (.lit 0))
                   (.split 1006
                    (.lett 1007 .bit (.not (.var 22))
                    (.ret [(.var 1007)]))
                    (.ret [(.lit 0)])))))))
                  (.lett 1004 .bit (.cmp .neq (.var 31) (.lit 0))
                  (.split 1004
                   (.lett 1005 .bit (.not (.var 22))
                   (.ret [(.var 1005)]))
                   (.ret [(.lit 0)]))))))))))))
               (.lett 667 .bit (.cmp .neq (.var 30) (.lit 0))
               (.split 667
                (.lett 859 .bit (.eqs [((.limb 18 0), (.lit 0)), ((.limb 18 1), (.lit 0)), ((.limb 18 2), (.lit 0)), ((.limb 18 3), (.lit 0)), ((.limb 18 4), (.lit 0)), ((.limb 18 5), (.lit 0))])
                (.lett 860 .bit (.not (.var 859))
                (.split 860
                 (.ret [(.lit 0)])
                 (.lett 1003 .bit (.cmp .eql (.var 31) (.lit 0))
                 (.split 1003
                  (.req 14 [(.var 0), (.var 1), (.var 2), (.var 4)]
                  (.lett 1004 .bit (.app 14 0 [(.var 0), (.var 1), (.var 2), (.var 4)])
                  (.lett 1005 .bit (.cmp .eql (.var 22) (.var 1004))
                  (.split 1005
                   (.ret [(.lit 1)])
                   (.lett 1006 .bit (.cmp .neq (.var 31) (.lit 0))
                   (.split 1006
                    (.lett 1007 .bit (.not (.var 22))
                    (.ret [(.var 1007)]))
                    (.ret [(.lit 0)])))))))
                  (.lett 1004 .bit (.cmp .neq (.var 31) (.lit 0))
                  (.split 1004
                   (.lett 1005 .bit (.not (.var 22))
                   (.ret [(.var 1005)]))
                   (.ret [(.lit 0)]))))))))
                (.lett 1003 .bit (.cmp .eql (.var 31) (.lit 0))
                (.split 1003
                 (.req 14 [(.var 0), (.var 1), (.var 2), (.var 4)]
                 (.lett 1004 .bit (.app 14 0 [(.var 0), (.var 1), (.var 2), (.var 4)])
                 (.lett 1005 .bit (.cmp .eql (.var 22) (.var 1004))
                 (.split 1005
                  (.ret [(.lit 1)])
                  (.lett 1006 .bit (.cmp .neq (.var 31) (.lit 0))
                  (.split 1006
                   (.lett 1007 .bit (.not (.var 22))
                   (.ret [(.var 1007)]))
                   (.ret [(.lit 0)])))))))
                 (.lett 1004 .bit (.cmp .neq (.var 31) (.lit 0))
                 (.split 1004
                  (.lett 1005 .bit (.not (.var 22))
                  (.ret [(.var 1005)]))
                  (.ret [(.lit 0)])))))))))))))))))
            (.lett 39 .bit (.cmp .neq (.var 28) (.lit 0))
            (.split 39
             (.lett 40 (.int .i64) (.llen (.var 14))
             (.lett 41 .bit (.cmp .neq (.var 40) (.lit 0))
             (.split 41
              (.ret [(.lit 0)])
              (.lett 90 .bit (.cmp .eql (.var 30) (.lit 0))
              (.split 90
               (.req 13 [(.var 0), (.var 1), (.var 2), (.var 3)]
               (.lett 426 .num (.app 13 0 [(.var 0), (.var 1), (.var 2), (.var 3)])
               (.lett 474 .bit (.eqs [((.limb 18 0), (.limb 426 0)), ((.limb 18 1), (.limb 426 1)), ((.limb 18 2), (.limb 426 2)), ((.limb 18 3), (.limb 426 3)), ((.limb 18 4), (.limb 426 4)), ((.limb 18 5), (.limb 426 5))])
               (.lett 475 .bit (.not (.var 474))
               (.split 475
                (.ret [(.lit 0)])
                (.lett 666 .bit (.cmp .neq (.var 30) (.lit 0))
                (.split 666
                 (.lett 858 .bit (.eqs [((.limb 18 0), (.lit 0)), ((.limb 18 1), (.lit 0)), ((.limb 18 2), (.lit 0)), ((.limb 18 3), (.lit 0)), ((.limb 18 4), (.lit 0)), ((.limb 18 5), (.lit 0))])
                 (.lett 859 .bit (.not (.var 858))
                 (.split 859
                  (.ret [(.lit 0)])
                  (.lett 1002 .bit (.cmp .eql (.var 31) (.lit 0))
                  (.split 1002
                   (.req 14 [(.var 0), (.var 1), (.var 2), (.var 4)]
                   (.lett 1003 .bit (.app 14 0 [(.var 0), (.var 1), (.var 2), (.var 4)])
                   (.lett 1004 .bit (.cmp .eql (.var 22) (.var 1003))
                   (.split 1004
                    (.ret [(.lit 1)])
                    (.lett 1005 .bit (.cmp .neq (.var 31) (.lit 0))
                    (.split 1005
                     (.lett 1006 .bit (.not (.var 22))
                     (.ret [(.var 1006)]))
                     (.ret [(.lit 0)])))))))
                   (.lett 1003 .bit (.cmp .neq (.var 31) (.lit 0))
                   (.split 1003
                    (.lett 1004 .bit (.not (.var 22))
                    (.ret [(.var 1004)]))
                    (.ret [(.lit 0)]))))))))
                 (.lett 1002 .bit (.cmp .eql (.var 31) (.lit 0))
                 (.split 1002
                  (.req 14 [(.var 0), (.var 1), (.var 2), (.var 4)]
                  (.lett 1003 .bit (.app 14 0 [(.var 0), (.var 1), (.var 2), (.var 4)])
                  (.lett 1004 .bit (.cmp .eql (.var 22) (.var 1003))
                  (.split 1004
                   (.ret [(.lit 1)])
                   (.lett 1005 .bit (.cmp .neq (.var 31) (.lit 0))
                   (.split 1005
                    (.lett 1006 .bit (.not (.var 22))
                    (.ret [(.var 1006)]))
                    (.ret [(.lit 0)])))))))
                  (.lett 1003 .bit (.cmp .neq (.var 31) (.lit 0))
                  (.split 1003
                   (.lett 1004 .bit (.not (.var 22))
                   (.ret [(.var 1004)]))
                   (.ret [(.lit 0)]))))))))))))
               (.lett 666 .bit (.cmp .neq (.var 30) (.lit 0))
               (.split 666
                (.lett 858 .bit (.eqs [((.limb 18 0), (.lit 0)), ((.limb 18 1), (.lit 0)), ((.limb 18 2), (.lit 0)), ((.limb 18 3), (.lit 0)), ((.limb 18 4), (.lit 0)), ((.limb 18 5), (.lit 0))])
                (.lett 859 .bit (.not (.var 858))
                (.split 859
                 (.ret [(.lit 0)])
                 (.lett 1002 .bit (.cmp .eql (.var 31) (.lit 0))
                 (.split 1002
                  (.req 14 [(.var 0), (.var 1), (.var 2), (.var 4)]
                  (.lett 1003 .bit (.app 14 0 [(.var 0), (.var 1), (.var 2), (.var 4)])
                  (.lett 1004 .bit (.cmp .eql (.var 22) (.var 1003))
                  (.split 1004
                   (.ret [(.lit 1)])
                   (.lett 1005 .bit (.cmp .neq (.var 31) (.lit 0))
                   (.split 1005
                    (.lett 1006 .bit (.not (.var 22))
                    (.ret [(.var 1006)]))
                    (.ret [(.lit 0)])))))))
                  (.lett 1003 .bit (.cmp .neq (.var 31) (.lit 0))
                  (.split 1003
                   (.lett 1004 .bit (.not (.var 22))
                   (.ret [(.var 1004)]))
                   (.ret [(.lit 0)]))))))))
                (.lett 1002 .bit (.cmp .eql (.var 31) (.lit 0))
                (.split 1002
                 (.req 14 [(.var 0), (.var 1), (.var 2), (.var 4)]
                 (.lett 1003 .bit (.app 14 0 [(.var 0), (.var 1), (.var 2), (.var 4)])
                 (.lett 1004 .bit (.cmp .eql (.var 22) (.var 1003))
                 (.split 1004
                  (.ret [(.lit 1)])
                  (.lett 1005 .bit (.cmp .neq (.var 31) (.lit 0))
                  (.split 1005
                   (.lett 1006 .bit (.not (.var 22))
                   (.ret [(.var 1006)]))
                   (.ret [(.lit 0)])))))))
                 (.lett 1003 .bit (.cmp .neq (.var 31) (.lit 0))
                 (.split 1003
                  (.lett 1004 .bit (.not (.var 22))
                  (.ret [(.var 1004)]))
                  (.ret [(.lit 0)]))))))))))))
             (.lett 88 .bit (.cmp .eql (.var 30) (.lit 0))
             (.split 88
              (.req 13 [(.var 0), (.var 1), (.var 2), (.var 3)]
              (.lett 424 .num (.app 13 0 [(.var 0), (.var 1), (.var 2), (.var 3)])
              (.lett 472 .bit (.eqs [((.limb 18 0), (.limb 424 0)), ((.limb 18 1), (.limb 424 1)), ((.limb 18 2), (.limb 424 2)), ((.limb 18 3), (.limb 424 3)), ((.limb 18 4), (.limb 424 4)), ((.limb 18 5), (.limb 424 5))])
              (.lett 473 .bit (.not (.var 472))
              (.split 473
               (.ret [(.lit 0)])
               (.lett 664 .bit (.cmp .neq (.var 30) (.lit 0))
               (.split 664
                (.lett 856 .bit (.eqs [((.limb 18 0), (.lit 0)), ((.limb 18 1), (.lit 0)), ((.limb 18 2), (.lit 0)), ((.limb 18 3), (.lit 0)), ((.limb 18 4), (.lit 0)), ((.limb 18 5), (.lit 0))])
                (.lett 857 .bit (.not (.var 856))
                (.split 857
                 (.ret [(.lit 0)])
                 (.lett 1000 .bit (.cmp .eql (.var 31) (.lit 0))
                 (.split 1000
                  (.req 14 [(.var 0), (.var 1), (.var 2), (.var 4)]
                  (.lett 1001 .bit (.app 14 0 [(.var 0), (.var 1), (.var 2), (.var 4)])
                  (.lett 1002 .bit (.cmp .eql (.var 22) (.var 1001))
                  (.split 1002
                   (.ret [(.lit 1)])
                   (.lett 1003 .bit (.cmp .neq (.var 31) (.lit 0))
                   (.split 1003
                    (.lett 1004 .bit (.not (.var 22))
                    (.ret [(.var 1004)]))
                    (.ret [(.lit 0)])))))))
                  (.lett 1001 .bit (.cmp .neq (.var 31) (.lit 0))
                  (.split 1001
                   (.lett 1002 .bit (.not (.var 22))
                   (.ret [(.var 1002)]))
                   (.ret [(.lit 0)]))))))))
                (.lett 1000 .bit (.cmp .eql (.var 31) (.lit 0))
                (.split 1000
                 (.req 14 [(.var 0), (.var 1), (.var 2), (.var 4)]
                 (.lett 1001 .bit (.app 14 0 [(.var 0), (.var 1), (.var 2), (.var 4)])
                 (.lett 1002 .bit (.cmp .eql (.var 22) (.var 1001))
                 (.split 1002
                  (.ret [(.lit 1)])
                  (.lett 1003 .bit (.cmp .neq (.var 31) (.lit 0))
                  (.split 1003
                   (.lett 1004 .bit (.not (.var 22))
                   (.ret [(.var 1004)]))
                   (.ret [(.lit 0)])))))))
                 (.lett 1001 .bit (.cmp .neq (.var 31) (.lit 0))
                 (.split 1001
                  (.lett 1002 .bit (.not (.var 22))
                  (.ret [(.var 1002)]))
                  (.ret [(.lit 0)]))))))))))))
              (.lett 664 .bit (.cmp .neq (.var 30) (.lit 0))
              (.split 664
               (.lett 856 .bit (.eqs [((.limb 18 0), (.lit 0)), ((.limb 18 1), (.lit 0)), ((.limb 18 2), (.lit 0)), ((.limb 18 3), (.lit 0)), ((.limb 18 4), (.lit 0)), ((.limb 18 5), (.lit 0))])
               (.lett 857 .bit (.not (.var 856))
               (.split 857
                (.ret [(.lit 0)])
                (.lett 1000 .bit (.cmp .eql (.var 31) (.lit 0))
                (.split 1000
                 (.req 14 [(.var 0), (.var 1), (.var 2), (.var 4)]
                 (.lett 1001 .bit (.app 14 0 [(.var 0), (.var 1), (.var 2), (.var 4)])
                 (.lett 1002 .bit (.cmp .eql (.var 22) (.var 1001))
                 (.split 1002
                  (.ret [(.lit 1)])
                  (.lett 1003 .bit (.cmp .neq (.var 31) (.lit 0))
                  (.split 1003
                   (.lett 1004 .bit (.not (.var 22))
                   (.ret [(.var 1004)]))
                   (.ret [(.lit 0)])))))))
                 (.lett 1001 .bit (.cmp .neq (.var 31) (.lit 0))
                 (.split 1001
                  (.lett 1002 .bit (.not (.var 22))
                  (.ret [(.var 1002)]))
                  (.ret [(.lit 0)]))))))))
               (.lett 1000 .bit (.cmp .eql (.var 31) (.lit 0))
               (.split 1000
                (.req 14 [(.var 0), (.var 1), (.var 2), (.var 4)]
                (.lett 1001 .bit (.app 14 0 [(.var 0), (.var 1), (.var 2), (.var 4)])
                (.lett 1002 .bit (.cmp .eql (.var 22) (.var 1001))
                (.split 1002
                 (.ret [(.lit 1)])
                 (.lett 1003 .bit (.cmp .neq (.var 31) (.lit 0))
                 (.split 1003
                  (.lett 1004 .bit (.not (.var 22))
                  (.ret [(.var 1004)]))
                  (.ret [(.lit 0)])))))))
                (.lett 1001 .bit (.cmp .neq (.var 31) (.lit 0))
                (.split 1001
                 (.lett 1002 .bit (.not (.var 22))
                 (.ret [(.var 1002)]))
                 (.ret [(.lit 0)])))))))))))))))))))))))
      (.lett 33 .bit (.cmp .neq (.var 15) (.var 28))
      (.split 33
       (.ret [(.lit 0)])
       (.lett 34 .bit (.cmp .neq (.var 19) (.var 30))
       (.split 34
        (.ret [(.lit 0)])
        (.lett 35 .bit (.cmp .neq (.var 23) (.var 31))
        (.split 35
         (.ret [(.lit 0)])
         (.lett 36 .bit (.cmp .eql (.var 28) (.lit 0))
         (.split 36
          (.req 12 [(.var 0), (.var 1), (.var 3)]
          (.lett 37 (.lst .num) (.app 12 0 [(.var 0), (.var 1), (.var 3)])
          (.req 11 [(.var 14), (.var 37)]
          (.lett 38 .bit (.app 11 0 [(.var 14), (.var 37)])
          (.lett 39 .bit (.not (.var 38))
          (.split 39
           (.ret [(.lit 0)])
           (.lett 40 .bit (.cmp .neq (.var 28) (.lit 0))
           (.split 40
            (.lett 41 (.int .i64) (.llen (.var 14))
            (.lett 42 .bit (.cmp .neq (.var 41) (.lit 0))
            (.split 42
             (.ret [(.lit 0)])
             (.lett 91 .bit (.cmp .eql (.var 30) (.lit 0))
             (.split 91
              (.req 13 [(.var 0), (.var 1), (.var 2), (.var 3)]
              (.lett 427 .num (.app 13 0 [(.var 0), (.var 1), (.var 2), (.var 3)])
              (.lett 475 .bit (.eqs [((.limb 18 0), (.limb 427 0)), ((.limb 18 1), (.limb 427 1)), ((.limb 18 2), (.limb 427 2)), ((.limb 18 3), (.limb 427 3)), ((.limb 18 4), (.limb 427 4)), ((.limb 18 5), (.limb 427 5))])
              (.lett 476 .bit (.not (.var 475))
              (.split 476
               (.ret [(.lit 0)])
               (.lett 667 .bit (.cmp .neq (.var 30) (.lit 0))
               (.split 667
                (.lett 859 .bit (.eqs [((.limb 18 0), (.lit 0)), ((.limb 18 1), (.lit 0)), ((.limb 18 2), (.lit 0)), ((.limb 18 3), (.lit 0)), ((.limb 18 4), (.lit 0)), ((.limb 18 5), (.lit 0))])
                (.lett 860 .bit (.not (.var 859))
                (.split 860
                 (.ret [(.lit 0)])
                 (.lett 1003 .bit (.cmp .eql (.var 31) (.lit 0))
                 (.split 1003
                  (.req 14 [(.var 0), (.var 1), (.var 2), (.var 4)]
                  (.lett 1004 .bit (.app 14 0 [(.var 0), (.var 1), (.var 2), (.var 4)])
                  (.lett 1005 .bit (.cmp .eql (.var 22) (.var 1004))
                  (.split 1005
                   (.ret [(.lit 1)])
                   (.lett 1006 .bit (.cmp .neq (.var 31) (.lit 0))
                   (.split 1006
                    (.lett 1007 .bit (.not (.var 22))
                    (.ret [(.var 1007)]))
                    (.ret [(.lit 0)])))))))
                  (.lett 1004 .bit (.cmp .neq (.var 31) (.lit 0))
                  (.split 1004
                   (.lett 1005 .bit (.not (.var 22))
                   (.ret [(.var 1005)]))
                   (.ret [(.lit 0)]))))))))
                (.lett 1003 .bit (.cmp .eql (.var 31) (.lit 0))
                (.split 1003
                 (.req 14 [(.var 0), (.var 1), (.var 2), (.var 4)]
                 (.lett 1004 .bit (.app 14 0 [(.var 0), (.var 1), (.var 2), (.var 4)])
                 (.lett 1005 .bit (.cmp .eql (.var 22) (.var 1004))
                 (.split 1005
                  (.ret [(.lit 1)])
                  (.lett 1006 .bit (.cmp .neq (.var 31) (.lit 0))
                  (.split 1006
                   (.lett 1007 .bit (.not (.var 22))
                   (.ret [(.var 1007)]))
                   (.ret [(.lit 0)])))))))
                 (.lett 1004 .bit (.cmp .neq (.var 31) (.lit 0))
                 (.split 1004
                  (.lett 1005 .bit (.not (.var 22))
                  (.ret [(.var 1005)]))
                  (.ret [(.lit 0)]))))))))))))
              (.lett 667 .bit (.cmp .neq (.var 30) (.lit 0))
              (.split 667
               (.lett 859 .bit (.eqs [((.limb 18 0), (.lit 0)), ((.limb 18 1), (.lit 0)), ((.limb 18 2), (.lit 0)), ((.limb 18 3), (.lit 0)), ((.limb 18 4), (.lit 0)), ((.limb 18 5), (.lit 0))])
               (.lett 860 .bit (.not (.var 859))
               (.split 860
                (.ret [(.lit 0)])
                (.lett 1003 .bit (.cmp .eql (.var 31) (.lit 0))
                (.split 1003
                 (.req 14 [(.var 0), (.var 1), (.var 2), (.var 4)]
                 (.lett 1004 .bit (.app 14 0 [(.var 0), (.var 1), (.var 2), (.var 4)])
                 (.lett 1005 .bit (.cmp .eql (.var 22) (.var 1004))
                 (.split 1005
                  (.ret [(.lit 1)])
                  (.lett 1006 .bit (.cmp .neq (.var 31) (.lit 0))
                  (.split 1006
                   (.lett 1007 .bit (.not (.var 22))
                   (.ret [(.var 1007)]))
                   (.ret [(.lit 0)])))))))
                 (.lett 1004 .bit (.cmp .neq (.var 31) (.lit 0))
                 (.split 1004
                  (.lett 1005 .bit (.not (.var 22))
                  (.ret [(.var 1005)]))
                  (.ret [(.lit 0)]))))))))
               (.lett 1003 .bit (.cmp .eql (.var 31) (.lit 0))
               (.split 1003
                (.req 14 [(.var 0), (.var 1), (.var 2), (.var 4)]
                (.lett 1004 .bit (.app 14 0 [(.var 0), (.var 1), (.var 2), (.var 4)])
                (.lett 1005 .bit (.cmp .eql (.var 22) (.var 1004))
                (.split 1005
                 (.ret [(.lit 1)])
                 (.lett 1006 .bit (.cmp .neq (.var 31) (.lit 0))
                 (.split 1006
                  (.lett 1007 .bit (.not (.var 22))
                  (.ret [(.var 1007)]))
                  (.ret [(.lit 0)])))))))
                (.lett 1004 .bit (.cmp .neq (.var 31) (.lit 0))
                (.split 1004
                 (.lett 1005 .bit (.not (.var 22))
                 (.ret [(.var 1005)]))
                 (.ret [(.lit 0)]))))))))))))
            (.lett 89 .bit (.cmp .eql (.var 30) (.lit 0))
            (.split 89
             (.req 13 [(.var 0), (.var 1), (.var 2), (.var 3)]
             (.lett 425 .num (.app 13 0 [(.var 0), (.var 1), (.var 2), (.var 3)])
             (.lett 473 .bit (.eqs [((.limb 18 0), (.limb 425 0)), ((.limb 18 1), (.limb 425 1)), ((.limb 18 2), (.limb 425 2)), ((.limb 18 3), (.limb 425 3)), ((.limb 18 4), (.limb 425 4)), ((.limb 18 5), (.limb 425 5))])
             (.lett 474 .bit (.not (.var 473))
             (.split 474
              (.ret [(.lit 0)])
              (.lett 665 .bit (.cmp .neq (.var 30) (.lit 0))
              (.split 665
               (.lett 857 .bit (.eqs [((.limb 18 0), (.lit 0)), ((.limb 18 1), (.lit 0)), ((.limb 18 2), (.lit 0)), ((.limb 18 3), (.lit 0)), ((.limb 18 4), (.lit 0)), ((.limb 18 5), (.lit 0))])
               (.lett 858 .bit (.not (.var 857))
               (.split 858
                (.ret [(.lit 0)])
                (.lett 1001 .bit (.cmp .eql (.var 31) (.lit 0))
                (.split 1001
                 (.req 14 [(.var 0), (.var 1), (.var 2), (.var 4)]
                 (.lett 1002 .bit (.app 14 0 [(.var 0), (.var 1), (.var 2), (.var 4)])
                 (.lett 1003 .bit (.cmp .eql (.var 22) (.var 1002))
                 (.split 1003
                  (.ret [(.lit 1)])
                  (.lett 1004 .bit (.cmp .neq (.var 31) (.lit 0))
                  (.split 1004
                   (.lett 1005 .bit (.not (.var 22))
                   (.ret [(.var 1005)]))
                   (.ret [(.lit 0)])))))))
                 (.lett 1002 .bit (.cmp .neq (.var 31) (.lit 0))
                 (.split 1002
                  (.lett 1003 .bit (.not (.var 22))
                  (.ret [(.var 1003)]))
                  (.ret [(.lit 0)]))))))))
               (.lett 1001 .bit (.cmp .eql (.var 31) (.lit 0))
               (.split 1001
                (.req 14 [(.var 0), (.var 1), (.var 2), (.var 4)]
                (.lett 1002 .bit (.app 14 0 [(.var 0), (.var 1), (.var 2), (.var 4)])
                (.lett 1003 .bit (.cmp .eql (.var 22) (.var 1002))
                (.split 1003
                 (.ret [(.lit 1)])
                 (.lett 1004 .bit (.cmp .neq (.var 31) (.lit 0))
                 (.split 1004
                  (.lett 1005 .bit (.not (.var 22))
                  (.ret [(.var 1005)]))
                  (.ret [(.lit 0)])))))))
                (.lett 1002 .bit (.cmp .neq (.var 31) (.lit 0))
                (.split 1002
                 (.lett 1003 .bit (.not (.var 22))
                 (.ret [(.var 1003)]))
                 (.ret [(.lit 0)]))))))))))))
             (.lett 665 .bit (.cmp .neq (.var 30) (.lit 0))
             (.split 665
              (.lett 857 .bit (.eqs [((.limb 18 0), (.lit 0)), ((.limb 18 1), (.lit 0)), ((.limb 18 2), (.lit 0)), ((.limb 18 3), (.lit 0)), ((.limb 18 4), (.lit 0)), ((.limb 18 5), (.lit 0))])
              (.lett 858 .bit (.not (.var 857))
              (.split 858
               (.ret [(.lit 0)])
               (.lett 1001 .bit (.cmp .eql (.var 31) (.lit 0))
               (.split 1001
                (.req 14 [(.var 0), (.var 1), (.var 2), (.var 4)]
                (.lett 1002 .bit (.app 14 0 [(.var 0), (.var 1), (.var 2), (.var 4)])
                (.lett 1003 .bit (.cmp .eql (.var 22) (.var 1002))
                (.split 1003
                 (.ret [(.lit 1)])
                 (.lett 1004 .bit (.cmp .neq (.var 31) (.lit 0))
                 (.split 1004
                  (.lett 1005 .bit (.not (.var 22))
                  (.ret [(.var 1005)]))
                  (.ret [(.lit 0)])))))))
                (.lett 1002 .bit (.cmp .neq (.var 31) (.lit 0))
                (.split 1002
                 (.lett 1003 .bit (.not (.var 22))
                 (.ret [(.var 1003)]))
                 (.ret [(.lit 0)]))))))))
              (.lett 1001 .bit (.cmp .eql (.var 31) (.lit 0))
              (.split 1001
               (.req 14 [(.var 0), (.var 1), (.var 2), (.var 4)]
               (.lett 1002 .bit (.app 14 0 [(.var 0), (.var 1), (.var 2), (.var 4)])
               (.lett 1003 .bit (.cmp .eql (.var 22) (.var 1002))
               (.split 1003
                (.ret [(.lit 1)])
                (.lett 1004 .bit (.cmp .neq (.var 31) (.lit 0))
                (.split 1004
                 (.lett 1005 .bit (.not (.var 22))
                 (.ret [(.var 1005)]))
                 (.ret [(.lit 0)])))))))
               (.lett 1002 .bit (.cmp .neq (.var 31) (.lit 0))
               (.split 1002
                (.lett 1003 .bit (.not (.var 22))
                (.ret [(.var 1003)]))
                (.ret [(.lit 0)])))))))))))))))))
          (.lett 37 .bit (.cmp .neq (.var 28) (.lit 0))
          (.split 37
           (.lett 38 (.int .i64) (.llen (.var 14))
           (.lett 39 .bit (.cmp .neq (.var 38) (.lit 0))
           (.split 39
            (.ret [(.lit 0)])
            (.lett 88 .bit (.cmp .eql (.var 30) (.lit 0))
            (.split 88
             (.req 13 [(.var 0), (.var 1), (.var 2), (.var 3)]
             (.lett 424 .num (.app 13 0 [(.var 0), (.var 1), (.var 2), (.var 3)])
             (.lett 472 .bit (.eqs [((.limb 18 0), (.limb 424 0)), ((.limb 18 1), (.limb 424 1)), ((.limb 18 2), (.limb 424 2)), ((.limb 18 3), (.limb 424 3)), ((.limb 18 4), (.limb 424 4)), ((.limb 18 5), (.limb 424 5))])
             (.lett 473 .bit (.not (.var 472))
             (.split 473
              (.ret [(.lit 0)])
              (.lett 664 .bit (.cmp .neq (.var 30) (.lit 0))
              (.split 664
               (.lett 856 .bit (.eqs [((.limb 18 0), (.lit 0)), ((.limb 18 1), (.lit 0)), ((.limb 18 2), (.lit 0)), ((.limb 18 3), (.lit 0)), ((.limb 18 4), (.lit 0)), ((.limb 18 5), (.lit 0))])
               (.lett 857 .bit (.not (.var 856))
               (.split 857
                (.ret [(.lit 0)])
                (.lett 1000 .bit (.cmp .eql (.var 31) (.lit 0))
                (.split 1000
                 (.req 14 [(.var 0), (.var 1), (.var 2), (.var 4)]
                 (.lett 1001 .bit (.app 14 0 [(.var 0), (.var 1), (.var 2), (.var 4)])
                 (.lett 1002 .bit (.cmp .eql (.var 22) (.var 1001))
                 (.split 1002
                  (.ret [(.lit 1)])
                  (.lett 1003 .bit (.cmp .neq (.var 31) (.lit 0))
                  (.split 1003
                   (.lett 1004 .bit (.not (.var 22))
                   (.ret [(.var 1004)]))
                   (.ret [(.lit 0)])))))))
                 (.lett 1001 .bit (.cmp .neq (.var 31) (.lit 0))
                 (.split 1001
                  (.lett 1002 .bit (.not (.var 22))
                  (.ret [(.var 1002)]))
                  (.ret [(.lit 0)]))))))))
               (.lett 1000 .bit (.cmp .eql (.var 31) (.lit 0))
               (.split 1000
                (.req 14 [(.var 0), (.var 1), (.var 2), (.var 4)]
                (.lett 1001 .bit (.app 14 0 [(.var 0), (.var 1), (.var 2), (.var 4)])
                (.lett 1002 .bit (.cmp .eql (.var 22) (.var 1001))
                (.split 1002
                 (.ret [(.lit 1)])
                 (.lett 1003 .bit (.cmp .neq (.var 31) (.lit 0))
                 (.split 1003
                  (.lett 1004 .bit (.not (.var 22))
                  (.ret [(.var 1004)]))
                  (.ret [(.lit 0)])))))))
                (.lett 1001 .bit (.cmp .neq (.var 31) (.lit 0))
                (.split 1001
                 (.lett 1002 .bit (.not (.var 22))
                 (.ret [(.var 1002)]))
                 (.ret [(.lit 0)]))))))))))))
             (.lett 664 .bit (.cmp .neq (.var 30) (.lit 0))
             (.split 664
              (.lett 856 .bit (.eqs [((.limb 18 0), (.lit 0)), ((.limb 18 1), (.lit 0)), ((.limb 18 2), (.lit 0)), ((.limb 18 3), (.lit 0)), ((.limb 18 4), (.lit 0)), ((.limb 18 5), (.lit 0))])
              (.lett 857 .bit (.not (.var 856))
              (.split 857
               (.ret [(.lit 0)])
               (.lett 1000 .bit (.cmp .eql (.var 31) (.lit 0))
               (.split 1000
                (.req 14 [(.var 0), (.var 1), (.var 2), (.var 4)]
                (.lett 1001 .bit (.app 14 0 [(.var 0), (.var 1), (.var 2), (.var 4)])
                (.lett 1002 .bit (.cmp .eql (.var 22) (.var 1001))
                (.split 1002
                 (.ret [(.lit 1)])
                 (.lett 1003 .bit (.cmp .neq (.var 31) (.lit 0))
                 (.split 1003
                  (.lett 1004 .bit (.not (.var 22))
                  (.ret [(.var 1004)]))
                  (.ret [(.lit 0)])))))))
                (.lett 1001 .bit (.cmp .neq (.var 31) (.lit 0))
                (.split 1001
                 (.lett 1002 .bit (.not (.var 22))
                 (.ret [(.var 1002)]))
                 (.ret [(.lit 0)]))))))))
              (.lett 1000 .bit (.cmp .eql (.var 31) (.lit 0))
              (.split 1000
               (.req 14 [(.var 0), (.var 1), (.var 2), (.var 4)]
               (.lett 1001 .bit (.app 14 0 [(.var 0), (.var 1), (.var 2), (.var 4)])
               (.lett 1002 .bit (.cmp .eql (.var 22) (.var 1001))
               (.split 1002
                (.ret [(.lit 1)])
                (.lett 1003 .bit (.cmp .neq (.var 31) (.lit 0))
                (.split 1003
                 (.lett 1004 .bit (.not (.var 22))
                 (.ret [(.var 1004)]))
                 (.ret [(.lit 0)])))))))
               (.lett 1001 .bit (.cmp .neq (.var 31) (.lit 0))
               (.split 1001
                (.lett 1002 .bit (.not (.var 22))
                (.ret [(.var 1002)]))
                (.ret [(.lit 0)]))))))))))))
           (.lett 86 .bit (.cmp .eql (.var 30) (.lit 0))
           (.split 86
            (.req 13 [(.var 0), (.var 1), (.var 2), (.var 3)]
            (.lett 422 .num (.app 13 0 [(.var 0), (.var 1), (.var 2), (.var 3)])
            (.lett 470 .bit (.eqs [((.limb 18 0), (.limb 422 0)), ((.limb 18 1), (.limb 422 1)), ((.limb 18 2), (.limb 422 2)), ((.limb 18 3), (.limb 422 3)), ((.limb 18 4), (.limb 422 4)), ((.limb 18 5), (.limb 422 5))])
            (.lett 471 .bit (.not (.var 470))
            (.split 471
             (.ret [(.lit 0)])
             (.lett 662 .bit (.cmp .neq (.var 30) (.lit 0))
             (.split 662
              (.lett 854 .bit (.eqs [((.limb 18 0), (.lit 0)), ((.limb 18 1), (.lit 0)), ((.limb 18 2), (.lit 0)), ((.limb 18 3), (.lit 0)), ((.limb 18 4), (.lit 0)), ((.limb 18 5), (.lit 0))])
              (.lett 855 .bit (.not (.var 854))
              (.split 855
               (.ret [(.lit 0)])
               (.lett 998 .bit (.cmp .eql (.var 31) (.lit 0))
               (.split 998
                (.req 14 [(.var 0), (.var 1), (.var 2), (.var 4)]
                (.lett 999 .bit (.app 14 0 [(.var 0), (.var 1), (.var 2), (.var 4)])
                (.lett 1000 .bit (.cmp .eql (.var 22) (.var 999))
                (.split 1000
                 (.ret [(.lit 1)])
                 (.lett 1001 .bit (.cmp .neq (.var 31) (.lit 0))
                 (.split 1001
                  (.lett 1002 .bit (.not (.var 22))
                  (.ret [(.var 1002)]))
                  (.ret [(.lit 0)])))))))
                (.lett 999 .bit (.cmp .neq (.var 31) (.lit 0))
                (.split 999
                 (.lett 1000 .bit (.not (.var 22))
                 (.ret [(.var 1000)]))
                 (.ret [(.lit 0)]))))))))
              (.lett 998 .bit (.cmp .eql (.var 31) (.lit 0))
              (.split 998
               (.req 14 [(.var 0), (.var 1), (.var 2), (.var 4)]
               (.lett 999 .bit (.app 14 0 [(.var 0), (.var 1), (.var 2), (.var 4)])
               (.lett 1000 .bit (.cmp .eql (.var 22) (.var 999))
               (.split 1000
                (.ret [(.lit 1)])
                (.lett 1001 .bit (.cmp .neq (.var 31) (.lit 0))
                (.split 1001
                 (.lett 1002 .bit (.not (.var 22))
                 (.ret [(.var 1002)]))
                 (.ret [(.lit 0)])))))))
               (.lett 999 .bit (.cmp .neq (.var 31) (.lit 0))
               (.split 999
                (.lett 1000 .bit (.not (.var 22))
                (.ret [(.var 1000)]))
                (.ret [(.lit 0)]))))))))))))
            (.lett 662 .bit (.cmp .neq (.var 30) (.lit 0))
            (.split 662
             (.lett 854 .bit (.eqs [((.limb 18 0), (.lit 0)), ((.limb 18 1), (.lit 0)), ((.limb 18 2), (.lit 0)), ((.limb 18 3), (.lit 0)), ((.limb 18 4), (.lit 0)), ((.limb 18 5), (.lit 0))])
             (.lett 855 .bit (.not (.var 854))
             (.split 855
              (.ret [(.lit 0)])
              (.lett 998 .bit (.cmp .eql (.var 31) (.lit 0))
              (.split 998
               (.req 14 [(.var 0), (.var 1), (.var 2), (.var 4)]
               (.lett 999 .bit (.app 14 0 [(.var 0), (.var 1), (.var 2), (.var 4)])
               (.lett 1000 .bit (.cmp .eql (.var 22) (.var 999))
               (.split 1000
                (.ret [(.lit 1)])
                (.lett 1001 .bit (.cmp .neq (.var 31) (.lit 0))
                (.split 1001
                 (.lett 1002 .bit (.not (.var 22))
                 (.ret [(.var 1002)]))
                 (.ret [(.lit 0)])))))))
               (.lett 999 .bit (.cmp .neq (.var 31) (.lit 0))
               (.split 999
                (.lett 1000 .bit (.not (.var 22))
                (.ret [(.var 1000)]))
                (.ret [(.lit 0)]))))))))
             (.lett 998 .bit (.cmp .eql (.var 31) (.lit 0))
             (.split 998
              (.req 14 [(.var 0), (.var 1), (.var 2), (.var 4)]
              (.lett 999 .bit (.app 14 0 [(.var 0), (.var 1), (.var 2), (.var 4)])
              (.lett 1000 .bit (.cmp .eql (.var 22) (.var 999))
              (.split 1000
               (.ret [(.lit 1)])
               (.lett 1001 .bit (.cmp .neq (.var 31) (.lit 0))
               (.split 1001
                (.lett 1002 .bit (.not (.var 22))
                (.ret [(.var 1002)]))
                (.ret [(.lit 0)])))))))
              (.lett 999 .bit (.cmp .neq (.var 31) (.lit 0))
              (.split 999
               (.lett 1000 .bit (.not (.var 22))
               (.ret [(.var 1000)]))
               (.ret [(.lit 0)])))))))))))))))))))))))))))))))))))))))))))))))))))))))))))))))))
end Go.Sx

/- Laws: ShareJoins. (Printed by gjoins.py.) -/
namespace Go.Sx
open Go Go.RowKit
set_option linter.unusedVariables false
set_option linter.unusedSimpArgs false
set_option maxRecDepth 100000
set_option maxHeartbeats 8000000 in
theorem law_joins (te ti : TypeId) (fs : Nat → FuncId) (f : FuncId) (e : Nat → Int) : tJoins.says (TJoins te ti fs) ⟨fun ys => ys = (kJoins f).sem [e 0, e 1, e 2, e 3, e 4], []⟩ e := by
  show tJoins.says (TJoins te ti fs) ⟨fun ys => ys = [1], []⟩ e
  have hpL : errLa (e 0) (dec (e 1)) (e 3) = 0 → isS (e 0) ∧ idsOk (dec (e 1)) ∧ (dec (e 1)).Nodup ∧ (dec (e 1)).length ≤ 64 ∧ 0 ≤ e 3 ∧ e 3 ≤ 1000 := errLa_ok
  have hpS : errSh (e 0) (dec (e 1)) (dec (e 2)) (e 3) = 0 → joinPre (e 0) (dec (e 1)) (dec (e 2)) (e 3) ∧ (dec (e 1)).Nodup := errSh_ok
  have hpF : errSh (e 0) (dec (e 1)) (dec (e 2)) 0 = 0 → 0 ≤ e 4 → e 4 ≤ 1000 → joinPre (e 0) (dec (e 1)) (dec (e 2)) 0 ∧ (dec (e 1)).Nodup ∧ 0 ≤ e 4 ∧ e 4 ≤ 1000 := fun h h1 h2 => ⟨(errSh_ok h).1, (errSh_ok h).2, h1, h2⟩
  unfold tJoins
  intro a5 k5
  have v5 : e 5 = ((dec (e 1)).length : Int) := a5
  clear a5
  refine ⟨trivial, ?_⟩
  intro a6 k6
  have b6 := large_cases a6; simp only [ev_var] at b6
  clear a6
  refine ⟨fun h6 => ?_, fun h6 => ?_⟩
  · have c6 := yes_ h6 b6; clear b6
    rfl
  have c6 := no_ h6 b6; clear b6
  intro a7 k7
  have v7 : e 7 = ((dec (e 2)).length : Int) := a7
  clear a7
  refine ⟨trivial, ?_⟩
  intro a8 k8
  have b8 := large_cases a8; simp only [ev_var] at b8
  clear a8
  refine ⟨fun h8 => ?_, fun h8 => ?_⟩
  · have c8 := yes_ h8 b8; clear b8
    rfl
  have c8 := no_ h8 b8; clear b8
  refine ⟨(show (dec (e 1)).length ≤ 1000 by omega), ?_⟩
  intro a9 k9
  have v9 : e 9 = enc (lentLI (dec (e 1))) := a9
  clear a9
  intro a10 k10
  have v10 : e 10 = ((dec (e 1)).length : Int) := a10
  clear a10
  refine ⟨(show (dec (e 2)).length ≤ 1000 by omega), ?_⟩
  intro a11 k11
  have v11 : e 11 = enc (lentL (dec (e 2))) := a11
  clear a11
  intro a12 k12
  have v12 : e 12 = ((dec (e 2)).length : Int) := a12
  clear a12
  intro a13 k13
  have v13 : dec (e 13) = dec (e 1) := lsub_lentI a13 v9 v10
  clear a13
  refine ⟨trivial, ?_⟩
  intro a14 k14
  have v14 : (errLa (e 0) (dec (e 1)) (e 3) = 0 ∧ e 14 = enc (lagV (rOf (e 0)) (dec (e 1)) (e 3))) ∨ (errLa (e 0) (dec (e 1)) (e 3) ≠ 0 ∧ e 14 = 0) := slagr_0 a14 v13
  clear a14
  intro a15 k15
  have v15 : e 15 = errLa (e 0) (dec (e 1)) (e 3) := slagr_1 a15 v13
  clear a15
  intro a16 k16
  have v16 : dec (e 16) = dec (e 1) := lsub_lentI a16 v9 v10
  clear a16
  intro a17 k17
  have v17 : dec (e 17) = dec (e 2) := lsub_lentN a17 v11 v12
  clear a17
  refine ⟨trivial, ?_⟩
  intro a18 k18
  have v18 : (errSh (e 0) (dec (e 1)) (dec (e 2)) (e 3) = 0 ∧ e 18 = joinV (rOf (e 0)) (dec (e 1)) (dec (e 2)) (e 3)) ∨ (errSh (e 0) (dec (e 1)) (dec (e 2)) (e 3) ≠ 0 ∧ e 18 = 0) := sjoin_0 a18 v16 v17
  clear a18
  intro a19 k19
  have v19 : e 19 = errSh (e 0) (dec (e 1)) (dec (e 2)) (e 3) := sjoin_1 a19 v16 v17
  clear a19
  intro a20 k20
  have v20 : dec (e 20) = dec (e 1) := lsub_lentI a20 v9 v10
  clear a20
  intro a21 k21
  have v21 : dec (e 21) = dec (e 2) := lsub_lentN a21 v11 v12
  clear a21
  refine ⟨trivial, ?_⟩
  intro a22 k22
  have v22 : (errSh (e 0) (dec (e 1)) (dec (e 2)) 0 = 0 ∧ 0 ≤ e 4 ∧ e 4 ≤ 1000 ∧ e 22 = fitB (e 0) (dec (e 1)) (dec (e 2)) (e 4)) ∨ ((errSh (e 0) (dec (e 1)) (dec (e 2)) 0 ≠ 0 ∨ e 4 < 0 ∨ 1000 < e 4) ∧ e 22 = 0) := sfit_0 a22 v20 v21
  clear a22
  intro a23 k23
  have v23 : (errSh (e 0) (dec (e 1)) (dec (e 2)) 0 ≠ 0 ∧ e 23 = errSh (e 0) (dec (e 1)) (dec (e 2)) 0) ∨ (errSh (e 0) (dec (e 1)) (dec (e 2)) 0 = 0 ∧ (e 4 < 0 ∨ 1000 < e 4) ∧ e 23 = 2) ∨ (errSh (e 0) (dec (e 1)) (dec (e 2)) 0 = 0 ∧ 0 ≤ e 4 ∧ e 4 ≤ 1000 ∧ e 23 = 0) := sfit_1 a23 v20 v21
  clear a23
  refine ⟨(show (dec (e 1)).length ≤ 1000 by omega), ?_⟩
  intro a24 k24
  have v24 : e 24 = 1 := keptI_yes a24 v9 v10
  clear a24
  intro a25 k25
  have b25 := c_not a25; simp only [ev_var] at b25
  clear a25
  refine ⟨fun h25 => ?_, fun h25 => ?_⟩
  · have c25 := yes_ h25 b25; clear b25; exfalso; omega
  have c25 := no_ h25 b25; clear b25
  refine ⟨(show (dec (e 2)).length ≤ 1000 by omega), ?_⟩
  intro a26 k26
  have v26 : e 26 = 1 := keptN_yes a26 v11 v12
  clear a26
  intro a27 k27
  have b27 := c_not a27; simp only [ev_var] at b27
  clear a27
  refine ⟨fun h27 => ?_, fun h27 => ?_⟩
  · have c27 := yes_ h27 b27; clear b27; exfalso; omega
  have c27 := no_ h27 b27; clear b27
  refine ⟨trivial, ?_⟩
  intro a28 k28
  have v28 : (e 28 = 0 ∧ errLa (e 0) (dec (e 1)) (e 3) = errIds (dec (e 1)) ((dec (e 1)).length : Int) (e 3)) ∨ (e 28 = 2 ∧ errLa (e 0) (dec (e 1)) (e 3) = 2) := coefs_0 a28
  clear a28
  intro a29 k29
  have b29 := c_eq a29; simp only [ev_lit, ev_var] at b29
  clear a29
  refine ⟨fun h29 => ?_, fun h29 => ?_⟩
  · have c29 := yes_ h29 b29; clear b29
    have u28 : errLa (e 0) (dec (e 1)) (e 3) = errIds (dec (e 1)) ((dec (e 1)).length : Int) (e 3) := by omega
    clear v28
    intro a30 k30
    have v30 : e 30 = ((dec (e 1)).length : Int) := a30
    clear a30
    refine ⟨trivial, ?_⟩
    intro a31 k31
    have v31 : e 31 = errIds (dec (e 1)) ((dec (e 1)).length : Int) (e 3) := ids_0 a31 v30
    clear a31
    refine ⟨trivial, ?_⟩
    intro a32 k32
    have v32 : e 32 = errSh (e 0) (dec (e 1)) (dec (e 2)) (e 3) := a32
    clear a32
    refine ⟨trivial, ?_⟩
    intro a33 k33
    have v33 : e 33 = errSh (e 0) (dec (e 1)) (dec (e 2)) 0 := a33
    clear a33
    intro a34 k34
    have b34 := c_eq a34; simp only [ev_lit, ev_var] at b34
    clear a34
    refine ⟨fun h34 => ?_, fun h34 => ?_⟩
    · have c34 := yes_ h34 b34; clear b34
      intro a35 k35
      have b35 := c_lt a35; simp only [ev_lit, ev_var] at b35
      clear a35
      refine ⟨fun h35 => ?_, fun h35 => ?_⟩
      · have c35 := yes_ h35 b35; clear b35
        intro a36 k36
        have b36 := c_ne a36; simp only [ev_lit, ev_var] at b36
        clear a36
        refine ⟨fun h36 => ?_, fun h36 => ?_⟩
        · have c36 := yes_ h36 b36; clear b36; exfalso; omega
        have c36 := no_ h36 b36; clear b36
        intro a37 k37
        have b37 := c_ne a37; simp only [ev_lit, ev_var] at b37
        clear a37
        refine ⟨fun h37 => ?_, fun h37 => ?_⟩
        · have c37 := yes_ h37 b37; clear b37; exfalso; omega
        have c37 := no_ h37 b37; clear b37
        have u23 : e 23 = 2 := by omega
        have u22 : e 22 = 0 := by omega
        clear v23 v22
        intro a38 k38
        have b38 := c_ne a38; simp only [ev_lit, ev_var] at b38
        clear a38
        refine ⟨fun h38 => ?_, fun h38 => ?_⟩
        · have c38 := yes_ h38 b38; clear b38; exfalso; omega
        have c38 := no_ h38 b38; clear b38
        intro a39 k39
        have b39 := c_eq a39; simp only [ev_lit, ev_var] at b39
        clear a39
        refine ⟨fun h39 => ?_, fun h39 => ?_⟩
        · have c39 := yes_ h39 b39; clear b39
          have u14 := (slagr_y v14 (by omega))
          clear v14
          refine ⟨hpL (by omega), ?_⟩
          intro a40 k40
          have v40 : e 40 = enc (lagV (rOf (e 0)) (dec (e 1)) (e 3)) := a40
          clear a40
          refine ⟨trivial, ?_⟩
          intro a41 k41
          have v41 : e 41 = 1 := sameN_yes a41 u14 v40
          clear a41
          intro a42 k42
          have b42 := c_not a42; simp only [ev_var] at b42
          clear a42
          refine ⟨fun h42 => ?_, fun h42 => ?_⟩
          · have c42 := yes_ h42 b42; clear b42; exfalso; omega
          have c42 := no_ h42 b42; clear b42
          intro a43 k43
          have b43 := c_ne a43; simp only [ev_lit, ev_var] at b43
          clear a43
          refine ⟨fun h43 => ?_, fun h43 => ?_⟩
          · have c43 := yes_ h43 b43; clear b43; exfalso; omega
          have c43 := no_ h43 b43; clear b43
          intro a92 k92
          have b92 := c_eq a92; simp only [ev_lit, ev_var] at b92
          clear a92
          refine ⟨fun h92 => ?_, fun h92 => ?_⟩
          · have c92 := yes_ h92 b92; clear b92
            have u18 := (case_y v18 (by omega))
            clear v18
            refine ⟨hpS (by omega), ?_⟩
            intro a428 k428
            have v428 : e 428 = joinV (rOf (e 0)) (dec (e 1)) (dec (e 2)) (e 3) := a428
            clear a428
            intro a476 k476
            have b476 := c_num a476 k18 k428
            clear a476
            intro a477 k477
            have b477 := c_not a477; simp only [ev_var] at b477
            clear a477
            refine ⟨fun h477 => ?_, fun h477 => ?_⟩
            · have c477 := yes_ h477 b477; have c476 := no_ c477 b476; clear b477 b476; exfalso; omega
            have c477 := no_ h477 b477; have c476 := yes_ c477 b476; clear b477 b476
            intro a668 k668
            have b668 := c_ne a668; simp only [ev_lit, ev_var] at b668
            clear a668
            refine ⟨fun h668 => ?_, fun h668 => ?_⟩
            · have c668 := yes_ h668 b668; clear b668; exfalso; omega
            have c668 := no_ h668 b668; clear b668
            intro a1004 k1004
            have b1004 := c_not a1004; simp only [ev_var] at b1004
            clear a1004
            exact congrArg (fun x => [x]) (show e 1004 = 1 by omega)
          have c92 := no_ h92 b92; clear b92
          have u18 := (case_n v18 (by omega))
          clear v18
          intro a668 k668
          have b668 := c_ne a668; simp only [ev_lit, ev_var] at b668
          clear a668
          refine ⟨fun h668 => ?_, fun h668 => ?_⟩
          rotate_left
          · have c668 := no_ h668 b668; clear b668; exfalso; omega
          have c668 := yes_ h668 b668; clear b668
          intro a860 k860
          have b860 := c_num0 a860 k18
          clear a860
          intro a861 k861
          have b861 := c_not a861; simp only [ev_var] at b861
          clear a861
          refine ⟨fun h861 => ?_, fun h861 => ?_⟩
          · have c861 := yes_ h861 b861; have c860 := no_ c861 b860; clear b861 b860; exfalso; omega
          have c861 := no_ h861 b861; have c860 := yes_ c861 b860; clear b861 b860
          intro a1004 k1004
          have b1004 := c_not a1004; simp only [ev_var] at b1004
          clear a1004
          exact congrArg (fun x => [x]) (show e 1004 = 1 by omega)
        have c39 := no_ h39 b39; clear b39
        have u14 := (slagr_n v14 (by omega))
        clear v14
        intro a40 k40
        have b40 := c_ne a40; simp only [ev_lit, ev_var] at b40
        clear a40
        refine ⟨fun h40 => ?_, fun h40 => ?_⟩
        rotate_left
        · have c40 := no_ h40 b40; clear b40; exfalso; omega
        have c40 := yes_ h40 b40; clear b40
        intro a41 k41
        have v41 : e 41 = ((dec (e 14)).length : Int) := a41
        clear a41
        intro a42 k42
        have b42 := c_ne a42; simp only [ev_lit, ev_var] at b42
        clear a42
        refine ⟨fun h42 => ?_, fun h42 => ?_⟩
        · have c42 := yes_ h42 b42; clear b42; exfalso; omega
        have c42 := no_ h42 b42; clear b42
        intro a91 k91
        have b91 := c_eq a91; simp only [ev_lit, ev_var] at b91
        clear a91
        refine ⟨fun h91 => ?_, fun h91 => ?_⟩
        · have c91 := yes_ h91 b91; clear b91
          have u18 := (case_y v18 (by omega))
          clear v18
          refine ⟨hpS (by omega), ?_⟩
          intro a427 k427
          have v427 : e 427 = joinV (rOf (e 0)) (dec (e 1)) (dec (e 2)) (e 3) := a427
          clear a427
          intro a475 k475
          have b475 := c_num a475 k18 k427
          clear a475
          intro a476 k476
          have b476 := c_not a476; simp only [ev_var] at b476
          clear a476
          refine ⟨fun h476 => ?_, fun h476 => ?_⟩
          · have c476 := yes_ h476 b476; have c475 := no_ c476 b475; clear b476 b475; exfalso; omega
          have c476 := no_ h476 b476; have c475 := yes_ c476 b475; clear b476 b475
          intro a667 k667
          have b667 := c_ne a667; simp only [ev_lit, ev_var] at b667
          clear a667
          refine ⟨fun h667 => ?_, fun h667 => ?_⟩
          · have c667 := yes_ h667 b667; clear b667; exfalso; omega
          have c667 := no_ h667 b667; clear b667
          intro a1003 k1003
          have b1003 := c_not a1003; simp only [ev_var] at b1003
          clear a1003
          exact congrArg (fun x => [x]) (show e 1003 = 1 by omega)
        have c91 := no_ h91 b91; clear b91
        have u18 := (case_n v18 (by omega))
        clear v18
        intro a667 k667
        have b667 := c_ne a667; simp only [ev_lit, ev_var] at b667
        clear a667
        refine ⟨fun h667 => ?_, fun h667 => ?_⟩
        rotate_left
        · have c667 := no_ h667 b667; clear b667; exfalso; omega
        have c667 := yes_ h667 b667; clear b667
        intro a859 k859
        have b859 := c_num0 a859 k18
        clear a859
        intro a860 k860
        have b860 := c_not a860; simp only [ev_var] at b860
        clear a860
        refine ⟨fun h860 => ?_, fun h860 => ?_⟩
        · have c860 := yes_ h860 b860; have c859 := no_ c860 b859; clear b860 b859; exfalso; omega
        have c860 := no_ h860 b860; have c859 := yes_ c860 b859; clear b860 b859
        intro a1003 k1003
        have b1003 := c_not a1003; simp only [ev_var] at b1003
        clear a1003
        exact congrArg (fun x => [x]) (show e 1003 = 1 by omega)
      have c35 := no_ h35 b35; clear b35
      intro a36 k36
      have b36 := c_gt a36; simp only [ev_lit, ev_var] at b36
      clear a36
      refine ⟨fun h36 => ?_, fun h36 => ?_⟩
      · have c36 := yes_ h36 b36; clear b36
        intro a37 k37
        have b37 := c_ne a37; simp only [ev_lit, ev_var] at b37
        clear a37
        refine ⟨fun h37 => ?_, fun h37 => ?_⟩
        · have c37 := yes_ h37 b37; clear b37; exfalso; omega
        have c37 := no_ h37 b37; clear b37
        intro a38 k38
        have b38 := c_ne a38; simp only [ev_lit, ev_var] at b38
        clear a38
        refine ⟨fun h38 => ?_, fun h38 => ?_⟩
        · have c38 := yes_ h38 b38; clear b38; exfalso; omega
        have c38 := no_ h38 b38; clear b38
        have u23 : e 23 = 2 := by omega
        have u22 : e 22 = 0 := by omega
        clear v23 v22
        intro a39 k39
        have b39 := c_ne a39; simp only [ev_lit, ev_var] at b39
        clear a39
        refine ⟨fun h39 => ?_, fun h39 => ?_⟩
        · have c39 := yes_ h39 b39; clear b39; exfalso; omega
        have c39 := no_ h39 b39; clear b39
        intro a40 k40
        have b40 := c_eq a40; simp only [ev_lit, ev_var] at b40
        clear a40
        refine ⟨fun h40 => ?_, fun h40 => ?_⟩
        · have c40 := yes_ h40 b40; clear b40
          have u14 := (slagr_y v14 (by omega))
          clear v14
          refine ⟨hpL (by omega), ?_⟩
          intro a41 k41
          have v41 : e 41 = enc (lagV (rOf (e 0)) (dec (e 1)) (e 3)) := a41
          clear a41
          refine ⟨trivial, ?_⟩
          intro a42 k42
          have v42 : e 42 = 1 := sameN_yes a42 u14 v41
          clear a42
          intro a43 k43
          have b43 := c_not a43; simp only [ev_var] at b43
          clear a43
          refine ⟨fun h43 => ?_, fun h43 => ?_⟩
          · have c43 := yes_ h43 b43; clear b43; exfalso; omega
          have c43 := no_ h43 b43; clear b43
          intro a44 k44
          have b44 := c_ne a44; simp only [ev_lit, ev_var] at b44
          clear a44
          refine ⟨fun h44 => ?_, fun h44 => ?_⟩
          · have c44 := yes_ h44 b44; clear b44; exfalso; omega
          have c44 := no_ h44 b44; clear b44
          intro a93 k93
          have b93 := c_eq a93; simp only [ev_lit, ev_var] at b93
          clear a93
          refine ⟨fun h93 => ?_, fun h93 => ?_⟩
          · have c93 := yes_ h93 b93; clear b93
            have u18 := (case_y v18 (by omega))
            clear v18
            refine ⟨hpS (by omega), ?_⟩
            intro a429 k429
            have v429 : e 429 = joinV (rOf (e 0)) (dec (e 1)) (dec (e 2)) (e 3) := a429
            clear a429
            intro a477 k477
            have b477 := c_num a477 k18 k429
            clear a477
            intro a478 k478
            have b478 := c_not a478; simp only [ev_var] at b478
            clear a478
            refine ⟨fun h478 => ?_, fun h478 => ?_⟩
            · have c478 := yes_ h478 b478; have c477 := no_ c478 b477; clear b478 b477; exfalso; omega
            have c478 := no_ h478 b478; have c477 := yes_ c478 b477; clear b478 b477
            intro a669 k669
            have b669 := c_ne a669; simp only [ev_lit, ev_var] at b669
            clear a669
            refine ⟨fun h669 => ?_, fun h669 => ?_⟩
            · have c669 := yes_ h669 b669; clear b669; exfalso; omega
            have c669 := no_ h669 b669; clear b669
            intro a1005 k1005
            have b1005 := c_not a1005; simp only [ev_var] at b1005
            clear a1005
            exact congrArg (fun x => [x]) (show e 1005 = 1 by omega)
          have c93 := no_ h93 b93; clear b93
          have u18 := (case_n v18 (by omega))
          clear v18
          intro a669 k669
          have b669 := c_ne a669; simp only [ev_lit, ev_var] at b669
          clear a669
          refine ⟨fun h669 => ?_, fun h669 => ?_⟩
          rotate_left
          · have c669 := no_ h669 b669; clear b669; exfalso; omega
          have c669 := yes_ h669 b669; clear b669
          intro a861 k861
          have b861 := c_num0 a861 k18
          clear a861
          intro a862 k862
          have b862 := c_not a862; simp only [ev_var] at b862
          clear a862
          refine ⟨fun h862 => ?_, fun h862 => ?_⟩
          · have c862 := yes_ h862 b862; have c861 := no_ c862 b861; clear b862 b861; exfalso; omega
          have c862 := no_ h862 b862; have c861 := yes_ c862 b861; clear b862 b861
          intro a1005 k1005
          have b1005 := c_not a1005; simp only [ev_var] at b1005
          clear a1005
          exact congrArg (fun x => [x]) (show e 1005 = 1 by omega)
        have c40 := no_ h40 b40; clear b40
        have u14 := (slagr_n v14 (by omega))
        clear v14
        intro a41 k41
        have b41 := c_ne a41; simp only [ev_lit, ev_var] at b41
        clear a41
        refine ⟨fun h41 => ?_, fun h41 => ?_⟩
        rotate_left
        · have c41 := no_ h41 b41; clear b41; exfalso; omega
        have c41 := yes_ h41 b41; clear b41
        intro a42 k42
        have v42 : e 42 = ((dec (e 14)).length : Int) := a42
        clear a42
        intro a43 k43
        have b43 := c_ne a43; simp only [ev_lit, ev_var] at b43
        clear a43
        refine ⟨fun h43 => ?_, fun h43 => ?_⟩
        · have c43 := yes_ h43 b43; clear b43; exfalso; omega
        have c43 := no_ h43 b43; clear b43
        intro a92 k92
        have b92 := c_eq a92; simp only [ev_lit, ev_var] at b92
        clear a92
        refine ⟨fun h92 => ?_, fun h92 => ?_⟩
        · have c92 := yes_ h92 b92; clear b92
          have u18 := (case_y v18 (by omega))
          clear v18
          refine ⟨hpS (by omega), ?_⟩
          intro a428 k428
          have v428 : e 428 = joinV (rOf (e 0)) (dec (e 1)) (dec (e 2)) (e 3) := a428
          clear a428
          intro a476 k476
          have b476 := c_num a476 k18 k428
          clear a476
          intro a477 k477
          have b477 := c_not a477; simp only [ev_var] at b477
          clear a477
          refine ⟨fun h477 => ?_, fun h477 => ?_⟩
          · have c477 := yes_ h477 b477; have c476 := no_ c477 b476; clear b477 b476; exfalso; omega
          have c477 := no_ h477 b477; have c476 := yes_ c477 b476; clear b477 b476
          intro a668 k668
          have b668 := c_ne a668; simp only [ev_lit, ev_var] at b668
          clear a668
          refine ⟨fun h668 => ?_, fun h668 => ?_⟩
          · have c668 := yes_ h668 b668; clear b668; exfalso; omega
          have c668 := no_ h668 b668; clear b668
          intro a1004 k1004
          have b1004 := c_not a1004; simp only [ev_var] at b1004
          clear a1004
          exact congrArg (fun x => [x]) (show e 1004 = 1 by omega)
        have c92 := no_ h92 b92; clear b92
        have u18 := (case_n v18 (by omega))
        clear v18
        intro a668 k668
        have b668 := c_ne a668; simp only [ev_lit, ev_var] at b668
        clear a668
        refine ⟨fun h668 => ?_, fun h668 => ?_⟩
        rotate_left
        · have c668 := no_ h668 b668; clear b668; exfalso; omega
        have c668 := yes_ h668 b668; clear b668
        intro a860 k860
        have b860 := c_num0 a860 k18
        clear a860
        intro a861 k861
        have b861 := c_not a861; simp only [ev_var] at b861
        clear a861
        refine ⟨fun h861 => ?_, fun h861 => ?_⟩
        · have c861 := yes_ h861 b861; have c860 := no_ c861 b860; clear b861 b860; exfalso; omega
        have c861 := no_ h861 b861; have c860 := yes_ c861 b860; clear b861 b860
        intro a1004 k1004
        have b1004 := c_not a1004; simp only [ev_var] at b1004
        clear a1004
        exact congrArg (fun x => [x]) (show e 1004 = 1 by omega)
      have c36 := no_ h36 b36; clear b36
      intro a37 k37
      have b37 := c_ne a37; simp only [ev_lit, ev_var] at b37
      clear a37
      refine ⟨fun h37 => ?_, fun h37 => ?_⟩
      · have c37 := yes_ h37 b37; clear b37; exfalso; omega
      have c37 := no_ h37 b37; clear b37
      intro a38 k38
      have b38 := c_ne a38; simp only [ev_lit, ev_var] at b38
      clear a38
      refine ⟨fun h38 => ?_, fun h38 => ?_⟩
      · have c38 := yes_ h38 b38; clear b38; exfalso; omega
      have c38 := no_ h38 b38; clear b38
      have u23 : e 23 = e 33 := by omega
      have u22 : e 22 = fitB (e 0) (dec (e 1)) (dec (e 2)) (e 4) := by omega
      clear v23 v22
      intro a39 k39
      have b39 := c_ne a39; simp only [ev_lit, ev_var] at b39
      clear a39
      refine ⟨fun h39 => ?_, fun h39 => ?_⟩
      · have c39 := yes_ h39 b39; clear b39; exfalso; omega
      have c39 := no_ h39 b39; clear b39
      intro a40 k40
      have b40 := c_eq a40; simp only [ev_lit, ev_var] at b40
      clear a40
      refine ⟨fun h40 => ?_, fun h40 => ?_⟩
      · have c40 := yes_ h40 b40; clear b40
        have u14 := (slagr_y v14 (by omega))
        clear v14
        refine ⟨hpL (by omega), ?_⟩
        intro a41 k41
        have v41 : e 41 = enc (lagV (rOf (e 0)) (dec (e 1)) (e 3)) := a41
        clear a41
        refine ⟨trivial, ?_⟩
        intro a42 k42
        have v42 : e 42 = 1 := sameN_yes a42 u14 v41
        clear a42
        intro a43 k43
        have b43 := c_not a43; simp only [ev_var] at b43
        clear a43
        refine ⟨fun h43 => ?_, fun h43 => ?_⟩
        · have c43 := yes_ h43 b43; clear b43; exfalso; omega
        have c43 := no_ h43 b43; clear b43
        intro a44 k44
        have b44 := c_ne a44; simp only [ev_lit, ev_var] at b44
        clear a44
        refine ⟨fun h44 => ?_, fun h44 => ?_⟩
        · have c44 := yes_ h44 b44; clear b44; exfalso; omega
        have c44 := no_ h44 b44; clear b44
        intro a93 k93
        have b93 := c_eq a93; simp only [ev_lit, ev_var] at b93
        clear a93
        refine ⟨fun h93 => ?_, fun h93 => ?_⟩
        · have c93 := yes_ h93 b93; clear b93
          have u18 := (case_y v18 (by omega))
          clear v18
          refine ⟨hpS (by omega), ?_⟩
          intro a429 k429
          have v429 : e 429 = joinV (rOf (e 0)) (dec (e 1)) (dec (e 2)) (e 3) := a429
          clear a429
          intro a477 k477
          have b477 := c_num a477 k18 k429
          clear a477
          intro a478 k478
          have b478 := c_not a478; simp only [ev_var] at b478
          clear a478
          refine ⟨fun h478 => ?_, fun h478 => ?_⟩
          · have c478 := yes_ h478 b478; have c477 := no_ c478 b477; clear b478 b477; exfalso; omega
          have c478 := no_ h478 b478; have c477 := yes_ c478 b477; clear b478 b477
          intro a669 k669
          have b669 := c_ne a669; simp only [ev_lit, ev_var] at b669
          clear a669
          refine ⟨fun h669 => ?_, fun h669 => ?_⟩
          · have c669 := yes_ h669 b669; clear b669; exfalso; omega
          have c669 := no_ h669 b669; clear b669
          intro a1005 k1005
          have b1005 := c_eq a1005; simp only [ev_lit, ev_var] at b1005
          clear a1005
          refine ⟨fun h1005 => ?_, fun h1005 => ?_⟩
          rotate_left
          · have c1005 := no_ h1005 b1005; clear b1005; exfalso; omega
          have c1005 := yes_ h1005 b1005; clear b1005
          refine ⟨hpF (by omega) (by omega) (by omega), ?_⟩
          intro a1006 k1006
          have v1006 : e 1006 = fitB (e 0) (dec (e 1)) (dec (e 2)) (e 4) := a1006
          clear a1006
          intro a1007 k1007
          have b1007 := c_eq a1007; simp only [ev_lit, ev_var] at b1007
          clear a1007
          refine ⟨fun h1007 => ?_, fun h1007 => ?_⟩
          · have c1007 := yes_ h1007 b1007; clear b1007
            rfl
          have c1007 := no_ h1007 b1007; clear b1007
          intro a1008 k1008
          have b1008 := c_ne a1008; simp only [ev_lit, ev_var] at b1008
          clear a1008
          refine ⟨fun h1008 => ?_, fun h1008 => ?_⟩
          · have c1008 := yes_ h1008 b1008; clear b1008; exfalso; omega
          have c1008 := no_ h1008 b1008; clear b1008
          exfalso; omega
        have c93 := no_ h93 b93; clear b93
        have u18 := (case_n v18 (by omega))
        clear v18
        intro a669 k669
        have b669 := c_ne a669; simp only [ev_lit, ev_var] at b669
        clear a669
        refine ⟨fun h669 => ?_, fun h669 => ?_⟩
        rotate_left
        · have c669 := no_ h669 b669; clear b669; exfalso; omega
        have c669 := yes_ h669 b669; clear b669
        intro a861 k861
        have b861 := c_num0 a861 k18
        clear a861
        intro a862 k862
        have b862 := c_not a862; simp only [ev_var] at b862
        clear a862
        refine ⟨fun h862 => ?_, fun h862 => ?_⟩
        · have c862 := yes_ h862 b862; have c861 := no_ c862 b861; clear b862 b861; exfalso; omega
        have c862 := no_ h862 b862; have c861 := yes_ c862 b861; clear b862 b861
        intro a1005 k1005
        have b1005 := c_eq a1005; simp only [ev_lit, ev_var] at b1005
        clear a1005
        refine ⟨fun h1005 => ?_, fun h1005 => ?_⟩
        rotate_left
        · have c1005 := no_ h1005 b1005; clear b1005; exfalso; omega
        have c1005 := yes_ h1005 b1005; clear b1005
        refine ⟨hpF (by omega) (by omega) (by omega), ?_⟩
        intro a1006 k1006
        have v1006 : e 1006 = fitB (e 0) (dec (e 1)) (dec (e 2)) (e 4) := a1006
        clear a1006
        intro a1007 k1007
        have b1007 := c_eq a1007; simp only [ev_lit, ev_var] at b1007
        clear a1007
        refine ⟨fun h1007 => ?_, fun h1007 => ?_⟩
        · have c1007 := yes_ h1007 b1007; clear b1007
          rfl
        have c1007 := no_ h1007 b1007; clear b1007
        intro a1008 k1008
        have b1008 := c_ne a1008; simp only [ev_lit, ev_var] at b1008
        clear a1008
        refine ⟨fun h1008 => ?_, fun h1008 => ?_⟩
        · have c1008 := yes_ h1008 b1008; clear b1008; exfalso; omega
        have c1008 := no_ h1008 b1008; clear b1008
        exfalso; omega
      have c40 := no_ h40 b40; clear b40
      have u14 := (slagr_n v14 (by omega))
      clear v14
      intro a41 k41
      have b41 := c_ne a41; simp only [ev_lit, ev_var] at b41
      clear a41
      refine ⟨fun h41 => ?_, fun h41 => ?_⟩
      rotate_left
      · have c41 := no_ h41 b41; clear b41; exfalso; omega
      have c41 := yes_ h41 b41; clear b41
      intro a42 k42
      have v42 : e 42 = ((dec (e 14)).length : Int) := a42
      clear a42
      intro a43 k43
      have b43 := c_ne a43; simp only [ev_lit, ev_var] at b43
      clear a43
      refine ⟨fun h43 => ?_, fun h43 => ?_⟩
      · have c43 := yes_ h43 b43; clear b43; exfalso; omega
      have c43 := no_ h43 b43; clear b43
      intro a92 k92
      have b92 := c_eq a92; simp only [ev_lit, ev_var] at b92
      clear a92
      refine ⟨fun h92 => ?_, fun h92 => ?_⟩
      · have c92 := yes_ h92 b92; clear b92
        have u18 := (case_y v18 (by omega))
        clear v18
        refine ⟨hpS (by omega), ?_⟩
        intro a428 k428
        have v428 : e 428 = joinV (rOf (e 0)) (dec (e 1)) (dec (e 2)) (e 3) := a428
        clear a428
        intro a476 k476
        have b476 := c_num a476 k18 k428
        clear a476
        intro a477 k477
        have b477 := c_not a477; simp only [ev_var] at b477
        clear a477
        refine ⟨fun h477 => ?_, fun h477 => ?_⟩
        · have c477 := yes_ h477 b477; have c476 := no_ c477 b476; clear b477 b476; exfalso; omega
        have c477 := no_ h477 b477; have c476 := yes_ c477 b476; clear b477 b476
        intro a668 k668
        have b668 := c_ne a668; simp only [ev_lit, ev_var] at b668
        clear a668
        refine ⟨fun h668 => ?_, fun h668 => ?_⟩
        · have c668 := yes_ h668 b668; clear b668; exfalso; omega
        have c668 := no_ h668 b668; clear b668
        intro a1004 k1004
        have b1004 := c_eq a1004; simp only [ev_lit, ev_var] at b1004
        clear a1004
        refine ⟨fun h1004 => ?_, fun h1004 => ?_⟩
        rotate_left
        · have c1004 := no_ h1004 b1004; clear b1004; exfalso; omega
        have c1004 := yes_ h1004 b1004; clear b1004
        refine ⟨hpF (by omega) (by omega) (by omega), ?_⟩
        intro a1005 k1005
        have v1005 : e 1005 = fitB (e 0) (dec (e 1)) (dec (e 2)) (e 4) := a1005
        clear a1005
        intro a1006 k1006
        have b1006 := c_eq a1006; simp only [ev_lit, ev_var] at b1006
        clear a1006
        refine ⟨fun h1006 => ?_, fun h1006 => ?_⟩
        · have c1006 := yes_ h1006 b1006; clear b1006
          rfl
        have c1006 := no_ h1006 b1006; clear b1006
        intro a1007 k1007
        have b1007 := c_ne a1007; simp only [ev_lit, ev_var] at b1007
        clear a1007
        refine ⟨fun h1007 => ?_, fun h1007 => ?_⟩
        · have c1007 := yes_ h1007 b1007; clear b1007; exfalso; omega
        have c1007 := no_ h1007 b1007; clear b1007
        exfalso; omega
      have c92 := no_ h92 b92; clear b92
      have u18 := (case_n v18 (by omega))
      clear v18
      intro a668 k668
      have b668 := c_ne a668; simp only [ev_lit, ev_var] at b668
      clear a668
      refine ⟨fun h668 => ?_, fun h668 => ?_⟩
      rotate_left
      · have c668 := no_ h668 b668; clear b668; exfalso; omega
      have c668 := yes_ h668 b668; clear b668
      intro a860 k860
      have b860 := c_num0 a860 k18
      clear a860
      intro a861 k861
      have b861 := c_not a861; simp only [ev_var] at b861
      clear a861
      refine ⟨fun h861 => ?_, fun h861 => ?_⟩
      · have c861 := yes_ h861 b861; have c860 := no_ c861 b860; clear b861 b860; exfalso; omega
      have c861 := no_ h861 b861; have c860 := yes_ c861 b860; clear b861 b860
      intro a1004 k1004
      have b1004 := c_eq a1004; simp only [ev_lit, ev_var] at b1004
      clear a1004
      refine ⟨fun h1004 => ?_, fun h1004 => ?_⟩
      rotate_left
      · have c1004 := no_ h1004 b1004; clear b1004; exfalso; omega
      have c1004 := yes_ h1004 b1004; clear b1004
      refine ⟨hpF (by omega) (by omega) (by omega), ?_⟩
      intro a1005 k1005
      have v1005 : e 1005 = fitB (e 0) (dec (e 1)) (dec (e 2)) (e 4) := a1005
      clear a1005
      intro a1006 k1006
      have b1006 := c_eq a1006; simp only [ev_lit, ev_var] at b1006
      clear a1006
      refine ⟨fun h1006 => ?_, fun h1006 => ?_⟩
      · have c1006 := yes_ h1006 b1006; clear b1006
        rfl
      have c1006 := no_ h1006 b1006; clear b1006
      intro a1007 k1007
      have b1007 := c_ne a1007; simp only [ev_lit, ev_var] at b1007
      clear a1007
      refine ⟨fun h1007 => ?_, fun h1007 => ?_⟩
      · have c1007 := yes_ h1007 b1007; clear b1007; exfalso; omega
      have c1007 := no_ h1007 b1007; clear b1007
      exfalso; omega
    have c34 := no_ h34 b34; clear b34
    intro a35 k35
    have b35 := c_ne a35; simp only [ev_lit, ev_var] at b35
    clear a35
    refine ⟨fun h35 => ?_, fun h35 => ?_⟩
    · have c35 := yes_ h35 b35; clear b35; exfalso; omega
    have c35 := no_ h35 b35; clear b35
    intro a36 k36
    have b36 := c_ne a36; simp only [ev_lit, ev_var] at b36
    clear a36
    refine ⟨fun h36 => ?_, fun h36 => ?_⟩
    · have c36 := yes_ h36 b36; clear b36; exfalso; omega
    have c36 := no_ h36 b36; clear b36
    have u23 : e 23 = e 33 := by omega
    have u22 : e 22 = 0 := by omega
    clear v23 v22
    intro a37 k37
    have b37 := c_ne a37; simp only [ev_lit, ev_var] at b37
    clear a37
    refine ⟨fun h37 => ?_, fun h37 => ?_⟩
    · have c37 := yes_ h37 b37; clear b37; exfalso; omega
    have c37 := no_ h37 b37; clear b37
    intro a38 k38
    have b38 := c_eq a38; simp only [ev_lit, ev_var] at b38
    clear a38
    refine ⟨fun h38 => ?_, fun h38 => ?_⟩
    · have c38 := yes_ h38 b38; clear b38
      have u14 := (slagr_y v14 (by omega))
      clear v14
      refine ⟨hpL (by omega), ?_⟩
      intro a39 k39
      have v39 : e 39 = enc (lagV (rOf (e 0)) (dec (e 1)) (e 3)) := a39
      clear a39
      refine ⟨trivial, ?_⟩
      intro a40 k40
      have v40 : e 40 = 1 := sameN_yes a40 u14 v39
      clear a40
      intro a41 k41
      have b41 := c_not a41; simp only [ev_var] at b41
      clear a41
      refine ⟨fun h41 => ?_, fun h41 => ?_⟩
      · have c41 := yes_ h41 b41; clear b41; exfalso; omega
      have c41 := no_ h41 b41; clear b41
      intro a42 k42
      have b42 := c_ne a42; simp only [ev_lit, ev_var] at b42
      clear a42
      refine ⟨fun h42 => ?_, fun h42 => ?_⟩
      · have c42 := yes_ h42 b42; clear b42; exfalso; omega
      have c42 := no_ h42 b42; clear b42
      intro a91 k91
      have b91 := c_eq a91; simp only [ev_lit, ev_var] at b91
      clear a91
      refine ⟨fun h91 => ?_, fun h91 => ?_⟩
      · have c91 := yes_ h91 b91; clear b91
        have u18 := (case_y v18 (by omega))
        clear v18
        refine ⟨hpS (by omega), ?_⟩
        intro a427 k427
        have v427 : e 427 = joinV (rOf (e 0)) (dec (e 1)) (dec (e 2)) (e 3) := a427
        clear a427
        intro a475 k475
        have b475 := c_num a475 k18 k427
        clear a475
        intro a476 k476
        have b476 := c_not a476; simp only [ev_var] at b476
        clear a476
        refine ⟨fun h476 => ?_, fun h476 => ?_⟩
        · have c476 := yes_ h476 b476; have c475 := no_ c476 b475; clear b476 b475; exfalso; omega
        have c476 := no_ h476 b476; have c475 := yes_ c476 b475; clear b476 b475
        intro a667 k667
        have b667 := c_ne a667; simp only [ev_lit, ev_var] at b667
        clear a667
        refine ⟨fun h667 => ?_, fun h667 => ?_⟩
        · have c667 := yes_ h667 b667; clear b667; exfalso; omega
        have c667 := no_ h667 b667; clear b667
        intro a1003 k1003
        have b1003 := c_eq a1003; simp only [ev_lit, ev_var] at b1003
        clear a1003
        refine ⟨fun h1003 => ?_, fun h1003 => ?_⟩
        · have c1003 := yes_ h1003 b1003; clear b1003; exfalso; omega
        have c1003 := no_ h1003 b1003; clear b1003
        intro a1004 k1004
        have b1004 := c_ne a1004; simp only [ev_lit, ev_var] at b1004
        clear a1004
        refine ⟨fun h1004 => ?_, fun h1004 => ?_⟩
        rotate_left
        · have c1004 := no_ h1004 b1004; clear b1004; exfalso; omega
        have c1004 := yes_ h1004 b1004; clear b1004
        intro a1005 k1005
        have b1005 := c_not a1005; simp only [ev_var] at b1005
        clear a1005
        exact congrArg (fun x => [x]) (show e 1005 = 1 by omega)
      have c91 := no_ h91 b91; clear b91
      have u18 := (case_n v18 (by omega))
      clear v18
      intro a667 k667
      have b667 := c_ne a667; simp only [ev_lit, ev_var] at b667
      clear a667
      refine ⟨fun h667 => ?_, fun h667 => ?_⟩
      rotate_left
      · have c667 := no_ h667 b667; clear b667; exfalso; omega
      have c667 := yes_ h667 b667; clear b667
      intro a859 k859
      have b859 := c_num0 a859 k18
      clear a859
      intro a860 k860
      have b860 := c_not a860; simp only [ev_var] at b860
      clear a860
      refine ⟨fun h860 => ?_, fun h860 => ?_⟩
      · have c860 := yes_ h860 b860; have c859 := no_ c860 b859; clear b860 b859; exfalso; omega
      have c860 := no_ h860 b860; have c859 := yes_ c860 b859; clear b860 b859
      intro a1003 k1003
      have b1003 := c_eq a1003; simp only [ev_lit, ev_var] at b1003
      clear a1003
      refine ⟨fun h1003 => ?_, fun h1003 => ?_⟩
      · have c1003 := yes_ h1003 b1003; clear b1003; exfalso; omega
      have c1003 := no_ h1003 b1003; clear b1003
      intro a1004 k1004
      have b1004 := c_ne a1004; simp only [ev_lit, ev_var] at b1004
      clear a1004
      refine ⟨fun h1004 => ?_, fun h1004 => ?_⟩
      rotate_left
      · have c1004 := no_ h1004 b1004; clear b1004; exfalso; omega
      have c1004 := yes_ h1004 b1004; clear b1004
      intro a1005 k1005
      have b1005 := c_not a1005; simp only [ev_var] at b1005
      clear a1005
      exact congrArg (fun x => [x]) (show e 1005 = 1 by omega)
    have c38 := no_ h38 b38; clear b38
    have u14 := (slagr_n v14 (by omega))
    clear v14
    intro a39 k39
    have b39 := c_ne a39; simp only [ev_lit, ev_var] at b39
    clear a39
    refine ⟨fun h39 => ?_, fun h39 => ?_⟩
    rotate_left
    · have c39 := no_ h39 b39; clear b39; exfalso; omega
    have c39 := yes_ h39 b39; clear b39
    intro a40 k40
    have v40 : e 40 = ((dec (e 14)).length : Int) := a40
    clear a40
    intro a41 k41
    have b41 := c_ne a41; simp only [ev_lit, ev_var] at b41
    clear a41
    refine ⟨fun h41 => ?_, fun h41 => ?_⟩
    · have c41 := yes_ h41 b41; clear b41; exfalso; omega
    have c41 := no_ h41 b41; clear b41
    intro a90 k90
    have b90 := c_eq a90; simp only [ev_lit, ev_var] at b90
    clear a90
    refine ⟨fun h90 => ?_, fun h90 => ?_⟩
    · have c90 := yes_ h90 b90; clear b90
      have u18 := (case_y v18 (by omega))
      clear v18
      refine ⟨hpS (by omega), ?_⟩
      intro a426 k426
      have v426 : e 426 = joinV (rOf (e 0)) (dec (e 1)) (dec (e 2)) (e 3) := a426
      clear a426
      intro a474 k474
      have b474 := c_num a474 k18 k426
      clear a474
      intro a475 k475
      have b475 := c_not a475; simp only [ev_var] at b475
      clear a475
      refine ⟨fun h475 => ?_, fun h475 => ?_⟩
      · have c475 := yes_ h475 b475; have c474 := no_ c475 b474; clear b475 b474; exfalso; omega
      have c475 := no_ h475 b475; have c474 := yes_ c475 b474; clear b475 b474
      intro a666 k666
      have b666 := c_ne a666; simp only [ev_lit, ev_var] at b666
      clear a666
      refine ⟨fun h666 => ?_, fun h666 => ?_⟩
      · have c666 := yes_ h666 b666; clear b666; exfalso; omega
      have c666 := no_ h666 b666; clear b666
      intro a1002 k1002
      have b1002 := c_eq a1002; simp only [ev_lit, ev_var] at b1002
      clear a1002
      refine ⟨fun h1002 => ?_, fun h1002 => ?_⟩
      · have c1002 := yes_ h1002 b1002; clear b1002; exfalso; omega
      have c1002 := no_ h1002 b1002; clear b1002
      intro a1003 k1003
      have b1003 := c_ne a1003; simp only [ev_lit, ev_var] at b1003
      clear a1003
      refine ⟨fun h1003 => ?_, fun h1003 => ?_⟩
      rotate_left
      · have c1003 := no_ h1003 b1003; clear b1003; exfalso; omega
      have c1003 := yes_ h1003 b1003; clear b1003
      intro a1004 k1004
      have b1004 := c_not a1004; simp only [ev_var] at b1004
      clear a1004
      exact congrArg (fun x => [x]) (show e 1004 = 1 by omega)
    have c90 := no_ h90 b90; clear b90
    have u18 := (case_n v18 (by omega))
    clear v18
    intro a666 k666
    have b666 := c_ne a666; simp only [ev_lit, ev_var] at b666
    clear a666
    refine ⟨fun h666 => ?_, fun h666 => ?_⟩
    rotate_left
    · have c666 := no_ h666 b666; clear b666; exfalso; omega
    have c666 := yes_ h666 b666; clear b666
    intro a858 k858
    have b858 := c_num0 a858 k18
    clear a858
    intro a859 k859
    have b859 := c_not a859; simp only [ev_var] at b859
    clear a859
    refine ⟨fun h859 => ?_, fun h859 => ?_⟩
    · have c859 := yes_ h859 b859; have c858 := no_ c859 b858; clear b859 b858; exfalso; omega
    have c859 := no_ h859 b859; have c858 := yes_ c859 b858; clear b859 b858
    intro a1002 k1002
    have b1002 := c_eq a1002; simp only [ev_lit, ev_var] at b1002
    clear a1002
    refine ⟨fun h1002 => ?_, fun h1002 => ?_⟩
    · have c1002 := yes_ h1002 b1002; clear b1002; exfalso; omega
    have c1002 := no_ h1002 b1002; clear b1002
    intro a1003 k1003
    have b1003 := c_ne a1003; simp only [ev_lit, ev_var] at b1003
    clear a1003
    refine ⟨fun h1003 => ?_, fun h1003 => ?_⟩
    rotate_left
    · have c1003 := no_ h1003 b1003; clear b1003; exfalso; omega
    have c1003 := yes_ h1003 b1003; clear b1003
    intro a1004 k1004
    have b1004 := c_not a1004; simp only [ev_var] at b1004
    clear a1004
    exact congrArg (fun x => [x]) (show e 1004 = 1 by omega)
  have c29 := no_ h29 b29; clear b29
  have u28 : e 28 = 2 ∧ errLa (e 0) (dec (e 1)) (e 3) = 2 := by omega
  clear v28
  refine ⟨trivial, ?_⟩
  intro a30 k30
  have v30 : e 30 = errSh (e 0) (dec (e 1)) (dec (e 2)) (e 3) := a30
  clear a30
  refine ⟨trivial, ?_⟩
  intro a31 k31
  have v31 : e 31 = errSh (e 0) (dec (e 1)) (dec (e 2)) 0 := a31
  clear a31
  intro a32 k32
  have b32 := c_eq a32; simp only [ev_lit, ev_var] at b32
  clear a32
  refine ⟨fun h32 => ?_, fun h32 => ?_⟩
  · have c32 := yes_ h32 b32; clear b32
    intro a33 k33
    have b33 := c_lt a33; simp only [ev_lit, ev_var] at b33
    clear a33
    refine ⟨fun h33 => ?_, fun h33 => ?_⟩
    · have c33 := yes_ h33 b33; clear b33
      intro a34 k34
      have b34 := c_ne a34; simp only [ev_lit, ev_var] at b34
      clear a34
      refine ⟨fun h34 => ?_, fun h34 => ?_⟩
      · have c34 := yes_ h34 b34; clear b34; exfalso; omega
      have c34 := no_ h34 b34; clear b34
      intro a35 k35
      have b35 := c_ne a35; simp only [ev_lit, ev_var] at b35
      clear a35
      refine ⟨fun h35 => ?_, fun h35 => ?_⟩
      · have c35 := yes_ h35 b35; clear b35; exfalso; omega
      have c35 := no_ h35 b35; clear b35
      have u23 : e 23 = 2 := by omega
      have u22 : e 22 = 0 := by omega
      clear v23 v22
      intro a36 k36
      have b36 := c_ne a36; simp only [ev_lit, ev_var] at b36
      clear a36
      refine ⟨fun h36 => ?_, fun h36 => ?_⟩
      · have c36 := yes_ h36 b36; clear b36; exfalso; omega
      have c36 := no_ h36 b36; clear b36
      intro a37 k37
      have b37 := c_eq a37; simp only [ev_lit, ev_var] at b37
      clear a37
      refine ⟨fun h37 => ?_, fun h37 => ?_⟩
      · have c37 := yes_ h37 b37; clear b37; exfalso; omega
      have c37 := no_ h37 b37; clear b37
      have u14 := (slagr_n v14 (by omega))
      clear v14
      intro a38 k38
      have b38 := c_ne a38; simp only [ev_lit, ev_var] at b38
      clear a38
      refine ⟨fun h38 => ?_, fun h38 => ?_⟩
      rotate_left
      · have c38 := no_ h38 b38; clear b38; exfalso; omega
      have c38 := yes_ h38 b38; clear b38
      intro a39 k39
      have v39 : e 39 = ((dec (e 14)).length : Int) := a39
      clear a39
      intro a40 k40
      have b40 := c_ne a40; simp only [ev_lit, ev_var] at b40
      clear a40
      refine ⟨fun h40 => ?_, fun h40 => ?_⟩
      · have c40 := yes_ h40 b40; clear b40; exfalso; omega
      have c40 := no_ h40 b40; clear b40
      intro a89 k89
      have b89 := c_eq a89; simp only [ev_lit, ev_var] at b89
      clear a89
      refine ⟨fun h89 => ?_, fun h89 => ?_⟩
      · have c89 := yes_ h89 b89; clear b89
        have u18 := (case_y v18 (by omega))
        clear v18
        refine ⟨hpS (by omega), ?_⟩
        intro a425 k425
        have v425 : e 425 = joinV (rOf (e 0)) (dec (e 1)) (dec (e 2)) (e 3) := a425
        clear a425
        intro a473 k473
        have b473 := c_num a473 k18 k425
        clear a473
        intro a474 k474
        have b474 := c_not a474; simp only [ev_var] at b474
        clear a474
        refine ⟨fun h474 => ?_, fun h474 => ?_⟩
        · have c474 := yes_ h474 b474; have c473 := no_ c474 b473; clear b474 b473; exfalso; omega
        have c474 := no_ h474 b474; have c473 := yes_ c474 b473; clear b474 b473
        intro a665 k665
        have b665 := c_ne a665; simp only [ev_lit, ev_var] at b665
        clear a665
        refine ⟨fun h665 => ?_, fun h665 => ?_⟩
        · have c665 := yes_ h665 b665; clear b665; exfalso; omega
        have c665 := no_ h665 b665; clear b665
        intro a1001 k1001
        have b1001 := c_not a1001; simp only [ev_var] at b1001
        clear a1001
        exact congrArg (fun x => [x]) (show e 1001 = 1 by omega)
      have c89 := no_ h89 b89; clear b89
      have u18 := (case_n v18 (by omega))
      clear v18
      intro a665 k665
      have b665 := c_ne a665; simp only [ev_lit, ev_var] at b665
      clear a665
      refine ⟨fun h665 => ?_, fun h665 => ?_⟩
      rotate_left
      · have c665 := no_ h665 b665; clear b665; exfalso; omega
      have c665 := yes_ h665 b665; clear b665
      intro a857 k857
      have b857 := c_num0 a857 k18
      clear a857
      intro a858 k858
      have b858 := c_not a858; simp only [ev_var] at b858
      clear a858
      refine ⟨fun h858 => ?_, fun h858 => ?_⟩
      · have c858 := yes_ h858 b858; have c857 := no_ c858 b857; clear b858 b857; exfalso; omega
      have c858 := no_ h858 b858; have c857 := yes_ c858 b857; clear b858 b857
      intro a1001 k1001
      have b1001 := c_not a1001; simp only [ev_var] at b1001
      clear a1001
      exact congrArg (fun x => [x]) (show e 1001 = 1 by omega)
    have c33 := no_ h33 b33; clear b33
    intro a34 k34
    have b34 := c_gt a34; simp only [ev_lit, ev_var] at b34
    clear a34
    refine ⟨fun h34 => ?_, fun h34 => ?_⟩
    · have c34 := yes_ h34 b34; clear b34
      intro a35 k35
      have b35 := c_ne a35; simp only [ev_lit, ev_var] at b35
      clear a35
      refine ⟨fun h35 => ?_, fun h35 => ?_⟩
      · have c35 := yes_ h35 b35; clear b35; exfalso; omega
      have c35 := no_ h35 b35; clear b35
      intro a36 k36
      have b36 := c_ne a36; simp only [ev_lit, ev_var] at b36
      clear a36
      refine ⟨fun h36 => ?_, fun h36 => ?_⟩
      · have c36 := yes_ h36 b36; clear b36; exfalso; omega
      have c36 := no_ h36 b36; clear b36
      have u23 : e 23 = 2 := by omega
      have u22 : e 22 = 0 := by omega
      clear v23 v22
      intro a37 k37
      have b37 := c_ne a37; simp only [ev_lit, ev_var] at b37
      clear a37
      refine ⟨fun h37 => ?_, fun h37 => ?_⟩
      · have c37 := yes_ h37 b37; clear b37; exfalso; omega
      have c37 := no_ h37 b37; clear b37
      intro a38 k38
      have b38 := c_eq a38; simp only [ev_lit, ev_var] at b38
      clear a38
      refine ⟨fun h38 => ?_, fun h38 => ?_⟩
      · have c38 := yes_ h38 b38; clear b38; exfalso; omega
      have c38 := no_ h38 b38; clear b38
      have u14 := (slagr_n v14 (by omega))
      clear v14
      intro a39 k39
      have b39 := c_ne a39; simp only [ev_lit, ev_var] at b39
      clear a39
      refine ⟨fun h39 => ?_, fun h39 => ?_⟩
      rotate_left
      · have c39 := no_ h39 b39; clear b39; exfalso; omega
      have c39 := yes_ h39 b39; clear b39
      intro a40 k40
      have v40 : e 40 = ((dec (e 14)).length : Int) := a40
      clear a40
      intro a41 k41
      have b41 := c_ne a41; simp only [ev_lit, ev_var] at b41
      clear a41
      refine ⟨fun h41 => ?_, fun h41 => ?_⟩
      · have c41 := yes_ h41 b41; clear b41; exfalso; omega
      have c41 := no_ h41 b41; clear b41
      intro a90 k90
      have b90 := c_eq a90; simp only [ev_lit, ev_var] at b90
      clear a90
      refine ⟨fun h90 => ?_, fun h90 => ?_⟩
      · have c90 := yes_ h90 b90; clear b90
        have u18 := (case_y v18 (by omega))
        clear v18
        refine ⟨hpS (by omega), ?_⟩
        intro a426 k426
        have v426 : e 426 = joinV (rOf (e 0)) (dec (e 1)) (dec (e 2)) (e 3) := a426
        clear a426
        intro a474 k474
        have b474 := c_num a474 k18 k426
        clear a474
        intro a475 k475
        have b475 := c_not a475; simp only [ev_var] at b475
        clear a475
        refine ⟨fun h475 => ?_, fun h475 => ?_⟩
        · have c475 := yes_ h475 b475; have c474 := no_ c475 b474; clear b475 b474; exfalso; omega
        have c475 := no_ h475 b475; have c474 := yes_ c475 b474; clear b475 b474
        intro a666 k666
        have b666 := c_ne a666; simp only [ev_lit, ev_var] at b666
        clear a666
        refine ⟨fun h666 => ?_, fun h666 => ?_⟩
        · have c666 := yes_ h666 b666; clear b666; exfalso; omega
        have c666 := no_ h666 b666; clear b666
        intro a1002 k1002
        have b1002 := c_not a1002; simp only [ev_var] at b1002
        clear a1002
        exact congrArg (fun x => [x]) (show e 1002 = 1 by omega)
      have c90 := no_ h90 b90; clear b90
      have u18 := (case_n v18 (by omega))
      clear v18
      intro a666 k666
      have b666 := c_ne a666; simp only [ev_lit, ev_var] at b666
      clear a666
      refine ⟨fun h666 => ?_, fun h666 => ?_⟩
      rotate_left
      · have c666 := no_ h666 b666; clear b666; exfalso; omega
      have c666 := yes_ h666 b666; clear b666
      intro a858 k858
      have b858 := c_num0 a858 k18
      clear a858
      intro a859 k859
      have b859 := c_not a859; simp only [ev_var] at b859
      clear a859
      refine ⟨fun h859 => ?_, fun h859 => ?_⟩
      · have c859 := yes_ h859 b859; have c858 := no_ c859 b858; clear b859 b858; exfalso; omega
      have c859 := no_ h859 b859; have c858 := yes_ c859 b858; clear b859 b858
      intro a1002 k1002
      have b1002 := c_not a1002; simp only [ev_var] at b1002
      clear a1002
      exact congrArg (fun x => [x]) (show e 1002 = 1 by omega)
    have c34 := no_ h34 b34; clear b34
    intro a35 k35
    have b35 := c_ne a35; simp only [ev_lit, ev_var] at b35
    clear a35
    refine ⟨fun h35 => ?_, fun h35 => ?_⟩
    · have c35 := yes_ h35 b35; clear b35; exfalso; omega
    have c35 := no_ h35 b35; clear b35
    intro a36 k36
    have b36 := c_ne a36; simp only [ev_lit, ev_var] at b36
    clear a36
    refine ⟨fun h36 => ?_, fun h36 => ?_⟩
    · have c36 := yes_ h36 b36; clear b36; exfalso; omega
    have c36 := no_ h36 b36; clear b36
    have u23 : e 23 = e 31 := by omega
    have u22 : e 22 = fitB (e 0) (dec (e 1)) (dec (e 2)) (e 4) := by omega
    clear v23 v22
    intro a37 k37
    have b37 := c_ne a37; simp only [ev_lit, ev_var] at b37
    clear a37
    refine ⟨fun h37 => ?_, fun h37 => ?_⟩
    · have c37 := yes_ h37 b37; clear b37; exfalso; omega
    have c37 := no_ h37 b37; clear b37
    intro a38 k38
    have b38 := c_eq a38; simp only [ev_lit, ev_var] at b38
    clear a38
    refine ⟨fun h38 => ?_, fun h38 => ?_⟩
    · have c38 := yes_ h38 b38; clear b38; exfalso; omega
    have c38 := no_ h38 b38; clear b38
    have u14 := (slagr_n v14 (by omega))
    clear v14
    intro a39 k39
    have b39 := c_ne a39; simp only [ev_lit, ev_var] at b39
    clear a39
    refine ⟨fun h39 => ?_, fun h39 => ?_⟩
    rotate_left
    · have c39 := no_ h39 b39; clear b39; exfalso; omega
    have c39 := yes_ h39 b39; clear b39
    intro a40 k40
    have v40 : e 40 = ((dec (e 14)).length : Int) := a40
    clear a40
    intro a41 k41
    have b41 := c_ne a41; simp only [ev_lit, ev_var] at b41
    clear a41
    refine ⟨fun h41 => ?_, fun h41 => ?_⟩
    · have c41 := yes_ h41 b41; clear b41; exfalso; omega
    have c41 := no_ h41 b41; clear b41
    intro a90 k90
    have b90 := c_eq a90; simp only [ev_lit, ev_var] at b90
    clear a90
    refine ⟨fun h90 => ?_, fun h90 => ?_⟩
    · have c90 := yes_ h90 b90; clear b90
      have u18 := (case_y v18 (by omega))
      clear v18
      refine ⟨hpS (by omega), ?_⟩
      intro a426 k426
      have v426 : e 426 = joinV (rOf (e 0)) (dec (e 1)) (dec (e 2)) (e 3) := a426
      clear a426
      intro a474 k474
      have b474 := c_num a474 k18 k426
      clear a474
      intro a475 k475
      have b475 := c_not a475; simp only [ev_var] at b475
      clear a475
      refine ⟨fun h475 => ?_, fun h475 => ?_⟩
      · have c475 := yes_ h475 b475; have c474 := no_ c475 b474; clear b475 b474; exfalso; omega
      have c475 := no_ h475 b475; have c474 := yes_ c475 b474; clear b475 b474
      intro a666 k666
      have b666 := c_ne a666; simp only [ev_lit, ev_var] at b666
      clear a666
      refine ⟨fun h666 => ?_, fun h666 => ?_⟩
      · have c666 := yes_ h666 b666; clear b666; exfalso; omega
      have c666 := no_ h666 b666; clear b666
      intro a1002 k1002
      have b1002 := c_eq a1002; simp only [ev_lit, ev_var] at b1002
      clear a1002
      refine ⟨fun h1002 => ?_, fun h1002 => ?_⟩
      rotate_left
      · have c1002 := no_ h1002 b1002; clear b1002; exfalso; omega
      have c1002 := yes_ h1002 b1002; clear b1002
      refine ⟨hpF (by omega) (by omega) (by omega), ?_⟩
      intro a1003 k1003
      have v1003 : e 1003 = fitB (e 0) (dec (e 1)) (dec (e 2)) (e 4) := a1003
      clear a1003
      intro a1004 k1004
      have b1004 := c_eq a1004; simp only [ev_lit, ev_var] at b1004
      clear a1004
      refine ⟨fun h1004 => ?_, fun h1004 => ?_⟩
      · have c1004 := yes_ h1004 b1004; clear b1004
        rfl
      have c1004 := no_ h1004 b1004; clear b1004
      intro a1005 k1005
      have b1005 := c_ne a1005; simp only [ev_lit, ev_var] at b1005
      clear a1005
      refine ⟨fun h1005 => ?_, fun h1005 => ?_⟩
      · have c1005 := yes_ h1005 b1005; clear b1005; exfalso; omega
      have c1005 := no_ h1005 b1005; clear b1005
      exfalso; omega
    have c90 := no_ h90 b90; clear b90
    have u18 := (case_n v18 (by omega))
    clear v18
    intro a666 k666
    have b666 := c_ne a666; simp only [ev_lit, ev_var] at b666
    clear a666
    refine ⟨fun h666 => ?_, fun h666 => ?_⟩
    rotate_left
    · have c666 := no_ h666 b666; clear b666; exfalso; omega
    have c666 := yes_ h666 b666; clear b666
    intro a858 k858
    have b858 := c_num0 a858 k18
    clear a858
    intro a859 k859
    have b859 := c_not a859; simp only [ev_var] at b859
    clear a859
    refine ⟨fun h859 => ?_, fun h859 => ?_⟩
    · have c859 := yes_ h859 b859; have c858 := no_ c859 b858; clear b859 b858; exfalso; omega
    have c859 := no_ h859 b859; have c858 := yes_ c859 b858; clear b859 b858
    intro a1002 k1002
    have b1002 := c_eq a1002; simp only [ev_lit, ev_var] at b1002
    clear a1002
    refine ⟨fun h1002 => ?_, fun h1002 => ?_⟩
    rotate_left
    · have c1002 := no_ h1002 b1002; clear b1002; exfalso; omega
    have c1002 := yes_ h1002 b1002; clear b1002
    refine ⟨hpF (by omega) (by omega) (by omega), ?_⟩
    intro a1003 k1003
    have v1003 : e 1003 = fitB (e 0) (dec (e 1)) (dec (e 2)) (e 4) := a1003
    clear a1003
    intro a1004 k1004
    have b1004 := c_eq a1004; simp only [ev_lit, ev_var] at b1004
    clear a1004
    refine ⟨fun h1004 => ?_, fun h1004 => ?_⟩
    · have c1004 := yes_ h1004 b1004; clear b1004
      rfl
    have c1004 := no_ h1004 b1004; clear b1004
    intro a1005 k1005
    have b1005 := c_ne a1005; simp only [ev_lit, ev_var] at b1005
    clear a1005
    refine ⟨fun h1005 => ?_, fun h1005 => ?_⟩
    · have c1005 := yes_ h1005 b1005; clear b1005; exfalso; omega
    have c1005 := no_ h1005 b1005; clear b1005
    exfalso; omega
  have c32 := no_ h32 b32; clear b32
  intro a33 k33
  have b33 := c_ne a33; simp only [ev_lit, ev_var] at b33
  clear a33
  refine ⟨fun h33 => ?_, fun h33 => ?_⟩
  · have c33 := yes_ h33 b33; clear b33; exfalso; omega
  have c33 := no_ h33 b33; clear b33
  intro a34 k34
  have b34 := c_ne a34; simp only [ev_lit, ev_var] at b34
  clear a34
  refine ⟨fun h34 => ?_, fun h34 => ?_⟩
  · have c34 := yes_ h34 b34; clear b34; exfalso; omega
  have c34 := no_ h34 b34; clear b34
  have u23 : e 23 = e 31 := by omega
  have u22 : e 22 = 0 := by omega
  clear v23 v22
  intro a35 k35
  have b35 := c_ne a35; simp only [ev_lit, ev_var] at b35
  clear a35
  refine ⟨fun h35 => ?_, fun h35 => ?_⟩
  · have c35 := yes_ h35 b35; clear b35; exfalso; omega
  have c35 := no_ h35 b35; clear b35
  intro a36 k36
  have b36 := c_eq a36; simp only [ev_lit, ev_var] at b36
  clear a36
  refine ⟨fun h36 => ?_, fun h36 => ?_⟩
  · have c36 := yes_ h36 b36; clear b36; exfalso; omega
  have c36 := no_ h36 b36; clear b36
  have u14 := (slagr_n v14 (by omega))
  clear v14
  intro a37 k37
  have b37 := c_ne a37; simp only [ev_lit, ev_var] at b37
  clear a37
  refine ⟨fun h37 => ?_, fun h37 => ?_⟩
  rotate_left
  · have c37 := no_ h37 b37; clear b37; exfalso; omega
  have c37 := yes_ h37 b37; clear b37
  intro a38 k38
  have v38 : e 38 = ((dec (e 14)).length : Int) := a38
  clear a38
  intro a39 k39
  have b39 := c_ne a39; simp only [ev_lit, ev_var] at b39
  clear a39
  refine ⟨fun h39 => ?_, fun h39 => ?_⟩
  · have c39 := yes_ h39 b39; clear b39; exfalso; omega
  have c39 := no_ h39 b39; clear b39
  intro a88 k88
  have b88 := c_eq a88; simp only [ev_lit, ev_var] at b88
  clear a88
  refine ⟨fun h88 => ?_, fun h88 => ?_⟩
  · have c88 := yes_ h88 b88; clear b88
    have u18 := (case_y v18 (by omega))
    clear v18
    refine ⟨hpS (by omega), ?_⟩
    intro a424 k424
    have v424 : e 424 = joinV (rOf (e 0)) (dec (e 1)) (dec (e 2)) (e 3) := a424
    clear a424
    intro a472 k472
    have b472 := c_num a472 k18 k424
    clear a472
    intro a473 k473
    have b473 := c_not a473; simp only [ev_var] at b473
    clear a473
    refine ⟨fun h473 => ?_, fun h473 => ?_⟩
    · have c473 := yes_ h473 b473; have c472 := no_ c473 b472; clear b473 b472; exfalso; omega
    have c473 := no_ h473 b473; have c472 := yes_ c473 b472; clear b473 b472
    intro a664 k664
    have b664 := c_ne a664; simp only [ev_lit, ev_var] at b664
    clear a664
    refine ⟨fun h664 => ?_, fun h664 => ?_⟩
    · have c664 := yes_ h664 b664; clear b664; exfalso; omega
    have c664 := no_ h664 b664; clear b664
    intro a1000 k1000
    have b1000 := c_eq a1000; simp only [ev_lit, ev_var] at b1000
    clear a1000
    refine ⟨fun h1000 => ?_, fun h1000 => ?_⟩
    · have c1000 := yes_ h1000 b1000; clear b1000; exfalso; omega
    have c1000 := no_ h1000 b1000; clear b1000
    intro a1001 k1001
    have b1001 := c_ne a1001; simp only [ev_lit, ev_var] at b1001
    clear a1001
    refine ⟨fun h1001 => ?_, fun h1001 => ?_⟩
    rotate_left
    · have c1001 := no_ h1001 b1001; clear b1001; exfalso; omega
    have c1001 := yes_ h1001 b1001; clear b1001
    intro a1002 k1002
    have b1002 := c_not a1002; simp only [ev_var] at b1002
    clear a1002
    exact congrArg (fun x => [x]) (show e 1002 = 1 by omega)
  have c88 := no_ h88 b88; clear b88
  have u18 := (case_n v18 (by omega))
  clear v18
  intro a664 k664
  have b664 := c_ne a664; simp only [ev_lit, ev_var] at b664
  clear a664
  refine ⟨fun h664 => ?_, fun h664 => ?_⟩
  rotate_left
  · have c664 := no_ h664 b664; clear b664; exfalso; omega
  have c664 := yes_ h664 b664; clear b664
  intro a856 k856
  have b856 := c_num0 a856 k18
  clear a856
  intro a857 k857
  have b857 := c_not a857; simp only [ev_var] at b857
  clear a857
  refine ⟨fun h857 => ?_, fun h857 => ?_⟩
  · have c857 := yes_ h857 b857; have c856 := no_ c857 b856; clear b857 b856; exfalso; omega
  have c857 := no_ h857 b857; have c856 := yes_ c857 b856; clear b857 b856
  intro a1000 k1000
  have b1000 := c_eq a1000; simp only [ev_lit, ev_var] at b1000
  clear a1000
  refine ⟨fun h1000 => ?_, fun h1000 => ?_⟩
  · have c1000 := yes_ h1000 b1000; clear b1000; exfalso; omega
  have c1000 := no_ h1000 b1000; clear b1000
  intro a1001 k1001
  have b1001 := c_ne a1001; simp only [ev_lit, ev_var] at b1001
  clear a1001
  refine ⟨fun h1001 => ?_, fun h1001 => ?_⟩
  rotate_left
  · have c1001 := no_ h1001 b1001; clear b1001; exfalso; omega
  have c1001 := yes_ h1001 b1001; clear b1001
  intro a1002 k1002
  have b1002 := c_not a1002; simp only [ev_var] at b1002
  clear a1002
  exact congrArg (fun x => [x]) (show e 1002 = 1 by omega)
end Go.Sx
