/- Laws: Fit; lent lists of ints. -/
import Derived.Test.YtlddchekkjjleaaGreatHf
set_option linter.unusedVariables false
set_option linter.unusedSimpArgs false
namespace Go.Sx
open Go Go.RowKit
set_option maxRecDepth 100000
set_option linter.unusedVariables false
set_option linter.unusedSimpArgs false
def fitV (r : Int) (ids l : List Int) (k : Nat) : Prop := ∀ i, k ≤ i → i < ids.length → joinV r (ids.take k) (l.take k) (ids.getD i 0) = l.getD i 0
open Classical in
noncomputable def fitB (s : Int) (ids l : List Int) (d : Int) : Int := bi (fitV (rOf s) ids l (d + 1).toNat)
theorem fitB_yes {s : Int} {ids l : List Int} {d : Int} (h : fitV (rOf s) ids l (d + 1).toNat) : fitB s ids l d = 1 := by unfold fitB bi; exact if_pos h
theorem fitB_no {s : Int} {ids l : List Int} {d : Int} (h : ¬ fitV (rOf s) ids l (d + 1).toNat) : fitB s ids l d = 0 := by unfold fitB bi; exact if_neg h
noncomputable def semSFit : List Int → List Int := fun | [s, x, l, d] => if errSh s (dec x) (dec l) 0 ≠ 0 then [0, errSh s (dec x) (dec l) 0] else if d < 0 ∨ 1000 < d then [0, 2] else [fitB s (dec x) (dec l) d, 0] | _ => []
noncomputable def kSFit (f : FuncId) : K := { fn := f, ext := false, ins := [iI, iLi, iL, iI], outs := [oB, oI], pre := fun _ => True, sem := semSFit }
theorem joinPre_take {s : Int} {ids l : List Int} {a b : Int} (h : joinPre s ids l a) (k : Nat) (hb : 1 ≤ b ∧ b ≤ 1000) : joinPre s (ids.take k) (l.take k) b := by
  obtain ⟨h1, h2, h3, h4, h5, h6, h7⟩ := h
  exact ⟨h1, idsOk_take h2 k, by rw [List.length_take]; omega, by rw [List.length_take, List.length_take, h4], allLt_takeN h5 k, by omega, hb.2⟩
def tSFit : Tree := (.req 0 [(.var 0), (.var 1), (.var 2), (.lit 0)]
(.lett 4 (.int .i64) (.app 0 0 [(.var 0), (.var 1), (.var 2), (.lit 0)])
(.lett 5 .bit (.cmp .neq (.var 4) (.lit 0))
(.split 5
 (.ret [(.lit 0), (.var 4)])
 (.lett 6 .bit (.cmp .lss (.var 3) (.lit 0))
 (.split 6
  (.ret [(.lit 0), (.lit 2)])
  (.lett 7 .bit (.cmp .gtr (.var 3) (.lit 1000))
  (.split 7
   (.ret [(.lit 0), (.lit 2)])
   (.lett 8 (.int .i64) (.bin .add .i64 (.var 3) (.lit 1))
   (.loop [(.var 8)] [(.int .i64)] 9
   (.lett 10 (.int .i64) (.llen (.var 1))
   (.lett 11 .bit (.cmp .lss (.var 9) (.var 10))
   (.split 11
    (.lett 204 (.int .i64) (.bin .add .i64 (.var 3) (.lit 1))
    (.lett 252 (.int .i64) (.llen (.var 1))
    (.lett 253 .bit (.cmp .leq (.lit 0) (.lit 0))
    (.lett 254 .bit (.cmp .leq (.lit 0) (.var 204))
    (.lett 255 .bit (.cmp .leq (.var 204) (.var 252))
    (.nz (.var 253)
    (.nz (.var 254)
    (.nz (.var 255)
    (.lett 396 (.int .i64) (.bin .add .i64 (.var 3) (.lit 1))
    (.lett 444 (.int .i64) (.llen (.var 2))
    (.lett 445 .bit (.cmp .leq (.lit 0) (.lit 0))
    (.lett 446 .bit (.cmp .leq (.lit 0) (.var 396))
    (.lett 447 .bit (.cmp .leq (.var 396) (.var 444))
    (.nz (.var 445)
    (.nz (.var 446)
    (.nz (.var 447)
    (.lett 588 (.int .i64) (.llen (.var 1))
    (.lett 589 .bit (.cmp .leq (.lit 0) (.var 9))
    (.lett 590 .bit (.cmp .lss (.var 9) (.var 588))
    (.nz (.var 589)
    (.nz (.var 590)
    (.lett 636 (.int .i64) (.lget (.var 1) (.var 9))
    (.lett 684 (.lst (.int .i64)) (.lsub (.var 1) (.lit 0) (.var 204))
    (.lett 685 (.lst .num) (.lsub (.var 2) (.lit 0) (.var 396))
    (.req 1 [(.var 0), (.var 684), (.var 685), (.var 636)]
    (.lett 686 .num (.app 1 0 [(.var 0), (.var 684), (.var 685), (.var 636)])
    (.lett 828 (.int .i64) (.llen (.var 2))
    (.lett 829 .bit (.cmp .leq (.lit 0) (.var 9))
    (.lett 830 .bit (.cmp .lss (.var 9) (.var 828))
    (.nz (.var 829)
    (.nz (.var 830)
    (.lett 876 .num (.lget (.var 2) (.var 9))
    (.lett 924 .bit (.eqs [((.limb 686 0), (.limb 876 0)), ((.limb 686 1), (.limb 876 1)), ((.limb 686 2), (.limb 876 2)), ((.limb 686 3), (.limb 876 3)), ((.limb 686 4), (.limb 876 4)), ((.limb 686 5), (.limb 876 5))])
    (.lett 925 .bit (.not (.var 924))
    (.split 925
     (.ret [(.lit 0), (.lit 0)])
     (.lett 972 (.int .i64) (.bin .add .i64 (.var 9) (.lit 1))
     (.back 0 [(.var 972)])))))))))))))))))))))))))))))))))))))
    (.ret [(.lit 1), (.lit 0)]))))))))))))))
theorem law_sFit (f1 f2 f : FuncId) (e : Nat → Int) (hk : kkHas [.int .i64, .lst (.int .i64), .lst .num, .int .i64] [e 0, e 1, e 2, e 3]) : tSFit.says [kShErr f1, kJoin f2] ⟨fun ys => ys = (kSFit f).sem [e 0, e 1, e 2, e 3], []⟩ e := by
  have hd : e 3 ≤ 9223372036854775807 := by have := hk.2.2.2.1; simp only [KK.has, has, lo, hi] at this; exact this.2
  show tSFit.says [kShErr f1, kJoin f2] ⟨fun ys => ys = if errSh (e 0) (dec (e 1)) (dec (e 2)) 0 ≠ 0 then [0, errSh (e 0) (dec (e 1)) (dec (e 2)) 0] else if e 3 < 0 ∨ 1000 < e 3 then [0, 2] else [fitB (e 0) (dec (e 1)) (dec (e 2)) (e 3), 0], []⟩ e
  refine ⟨trivial, fun a4 _ a5 _ => ?_⟩
  have v4 : e 4 = errSh (e 0) (dec (e 1)) (dec (e 2)) 0 := a4
  have b5 := c_ne a5
  simp only [ev_var, ev_lit] at b5
  refine ⟨fun h => ?_, fun h => ?_⟩
  · have c5 := yes_ h b5
    show [(0 : Int), e 4] = _
    rw [← v4, if_pos c5]
  · have c5 := no_ h b5
    obtain ⟨hp, hnd⟩ := errSh_ok (v4.symm.trans c5)
    rw [← v4, if_neg (by omega)]
    intro a6 _
    have b6 := c_lt a6
    simp only [ev_var, ev_lit] at b6
    refine ⟨fun h => ?_, fun h => ?_⟩
    · have c6 := yes_ h b6
      show [(0 : Int), 2] = _
      rw [if_pos (.inl c6)]
    · have c6 := no_ h b6
      intro a7 _
      have b7 := c_gt a7
      simp only [ev_var, ev_lit] at b7
      refine ⟨fun h => ?_, fun h => ?_⟩
      · have c7 := yes_ h b7
        show [(0 : Int), 2] = _
        rw [if_pos (.inr c7)]
      · have c7 := no_ h b7
        rw [if_neg (by omega)]
        intro a8 _
        have add1 : ∀ {v : Int}, v = binE .add .i64 (e 3) 1 → v = e 3 + 1 := fun h => by rw [h]; simp only [binE, wr]; omega
        have v8 := add1 a8
        generalize hL : dec (e 1) = x at *
        generalize hM : dec (e 2) = l at *
        have hlx := hp.2.2.1
        have hll := hp.2.2.2.1
        obtain ⟨k, hkd⟩ : ∃ k, k = (e 3 + 1).toNat := ⟨_, rfl⟩
        refine ⟨fun | [i] => e 3 + 1 ≤ i ∧ ∀ j : Nat, k ≤ j → j < i.toNat → j < x.length → joinV (rOf (e 0)) (x.take k) (l.take k) (x.getD j 0) = l.getD j 0 | _ => False, fun | [i] => (x.length - i).toNat | _ => 0, ⟨(show e 3 + 1 ≤ e 8 by omega), fun j h1 h2 _ => by simp only [A.ev] at h2; omega⟩, fun e' he hkk hI => ?_⟩
        obtain ⟨i0, i1⟩ : e 3 + 1 ≤ e' 9 ∧ ∀ j : Nat, k ≤ j → j < (e' 9).toNat → j < x.length → joinV (rOf (e 0)) (x.take k) (l.take k) (x.getD j 0) = l.getD j 0 := hI
        have e0 := he 0 (by decide)
        have e1 := he 1 (by decide)
        have e2 := he 2 (by decide)
        have e3 := he 3 (by decide)
        have len : ∀ {v : Int}, v = ((dec (e' 1)).length : Int) → v = (x.length : Int) := fun h => by rw [h, e1, hL]
        have len2 : ∀ {v : Int}, v = ((dec (e' 2)).length : Int) → v = (x.length : Int) := fun h => by rw [h, e2, hM, hll]
        intro a10 _ a11 _
        have v10 := len a10
        have b11 := c_lt a11
        simp only [ev_var, ev_lit] at b11
        refine ⟨fun h => ?_, fun h => ?_⟩
        · have c11 := yes_ h b11
          have hit : (e' 9).toNat < x.length := by omega
          have hit' : (e' 9).toNat < l.length := by omega
          intro a204 _ a252 _ a253 _ a254 _ a255 _
          have v204 := add1 (a204.trans (by show binE .add .i64 (e' 3) 1 = _; rw [e3]))
          have v252 := len a252
          have b253 := c_le a253
          have b254 := c_le a254
          have b255 := c_le a255
          simp only [ev_var, ev_lit] at b253 b254 b255
          refine ⟨(show e' 253 ≠ 0 by omega), (show e' 254 ≠ 0 by omega), (show e' 255 ≠ 0 by omega), fun a396 _ a444 _ a445 _ a446 _ a447 _ => ?_⟩
          have v396 := add1 (a396.trans (by show binE .add .i64 (e' 3) 1 = _; rw [e3]))
          have v444 := len2 a444
          have b445 := c_le a445
          have b446 := c_le a446
          have b447 := c_le a447
          simp only [ev_var, ev_lit] at b445 b446 b447
          refine ⟨(show e' 445 ≠ 0 by omega), (show e' 446 ≠ 0 by omega), (show e' 447 ≠ 0 by omega), fun a588 _ a589 _ a590 _ => ?_⟩
          have v588 := len a588
          have b589 := c_le a589
          have b590 := c_lt a590
          simp only [ev_var, ev_lit] at b589 b590
          refine ⟨(show e' 589 ≠ 0 by omega), (show e' 590 ≠ 0 by omega), fun a636 _ a684 _ a685 _ => ?_⟩
          have v636 : e' 636 = x.getD (e' 9).toNat 0 := by
            have : e' 636 = (dec (e' 1)).getD (e' 9).toNat 0 := a636
            rw [this, e1, hL]
          have v684 : dec (e' 684) = x.take k := by
            have : e' 684 = enc (((dec (e' 1)).take (e' 204).toNat).drop (0 : Int).toNat) := a684
            rw [this, dec_enc, e1, hL, v204, hkd]; rfl
          have v685 : dec (e' 685) = l.take k := by
            have : e' 685 = enc (((dec (e' 2)).take (e' 396).toNat).drop (0 : Int).toNat) := a685
            rw [this, dec_enc, e2, hM, v396, hkd]; rfl
          have hid := hp.2.1 _ (getD_mem hit)
          refine ⟨(show joinPre (e' 0) (dec (e' 684)) (dec (e' 685)) (e' 636) by rw [e0, v684, v685, v636]; exact joinPre_take hp k hid), fun a686 k686 a828 _ a829 _ a830 _ => ?_⟩
          have v686 : e' 686 = joinV (rOf (e 0)) (x.take k) (l.take k) (x.getD (e' 9).toNat 0) := by
            have : e' 686 = joinV (rOf (e' 0)) (dec (e' 684)) (dec (e' 685)) (e' 636) := a686
            rw [this, e0, v684, v685, v636]
          have v828 := len2 a828
          have b829 := c_le a829
          have b830 := c_lt a830
          simp only [ev_var, ev_lit] at b829 b830
          refine ⟨(show e' 829 ≠ 0 by omega), (show e' 830 ≠ 0 by omega), fun a876 k876 a924 _ a925 _ => ?_⟩
          have v876 : e' 876 = l.getD (e' 9).toNat 0 := by
            have : e' 876 = (dec (e' 2)).getD (e' 9).toNat 0 := a876
            rw [this, e2, hM]
          have b924 := c_num a924 k686 k876
          have b925 := c_not a925
          simp only [ev_var] at b925
          refine ⟨fun h => ?_, fun h => ?_⟩
          · have c924 := no_ (yes_ h b925) b924
            have hno : ¬ fitV (rOf (e 0)) x l (e 3 + 1).toNat := fun hf => c924 (by rw [v686, v876, hkd]; exact hf _ (by omega) hit)
            show [(0 : Int), 0] = _
            rw [fitB_no hno]
          · have c924 := yes_ (no_ h b925) b924
            intro a972 _
            have v972 : e' 972 = e' 9 + 1 := by
              have : e' 972 = binE .add .i64 (e' 9) 1 := a972
              rw [this]; simp only [binE, wr]; omega
            show (e 3 + 1 ≤ e' 972 ∧ ∀ j : Nat, k ≤ j → j < (e' 972).toNat → j < x.length → joinV (rOf (e 0)) (x.take k) (l.take k) (x.getD j 0) = l.getD j 0) ∧ (x.length - e' 972).toNat < (x.length - e' 9).toNat
            refine ⟨⟨by omega, fun j h1 h2 h3 => ?_⟩, by omega⟩
            by_cases hje : j = (e' 9).toNat
            · subst hje; rw [← v686, ← v876]; exact c924
            · exact i1 j h1 (by omega) h3
        · have c11 := no_ h b11
          have hyes : fitV (rOf (e 0)) x l (e 3 + 1).toNat := fun i h1 h2 => by rw [← hkd] at h1 ⊢; exact i1 i h1 (by omega) h2
          show [(1 : Int), 0] = _
          rw [fitB_yes hyes]
noncomputable def kRFit (f : FuncId) : K := { fn := f, ext := false, ins := [iI, iLi, iL, iI], outs := [oB], pre := fun | [s, x, l, d] => joinPre s (dec x) (dec l) 0 ∧ (dec x).Nodup ∧ 0 ≤ d ∧ d ≤ 1000 | _ => False, sem := fun | [s, x, l, d] => [fitB s (dec x) (dec l) d] | _ => [] }
def tRFit : Tree := (.lett 4 (.int .i64) (.bin .add .i64 (.var 3) (.lit 1))
(.lett 5 (.int .i64) (.llen (.var 1))
(.lett 6 .bit (.cmp .lss (.var 5) (.var 4))
(.lett 7 (.int .i64) (.put (.var 6) 1 (.var 5) (.var 4))
(.loop [(.var 7)] [(.int .i64)] 8
(.lett 9 (.int .i64) (.llen (.var 1))
(.lett 10 .bit (.cmp .lss (.var 8) (.var 9))
(.split 10
 (.lett 155 (.int .i64) (.llen (.var 1))
 (.lett 156 .bit (.cmp .leq (.lit 0) (.lit 0))
 (.lett 157 .bit (.cmp .leq (.lit 0) (.var 7))
 (.lett 158 .bit (.cmp .leq (.var 7) (.var 155))
 (.nz (.var 156)
 (.nz (.var 157)
 (.nz (.var 158)
 (.lett 299 (.int .i64) (.llen (.var 2))
 (.lett 300 .bit (.cmp .leq (.lit 0) (.lit 0))
 (.lett 301 .bit (.cmp .leq (.lit 0) (.var 7))
 (.lett 302 .bit (.cmp .leq (.var 7) (.var 299))
 (.nz (.var 300)
 (.nz (.var 301)
 (.nz (.var 302)
 (.lett 443 (.int .i64) (.llen (.var 1))
 (.lett 444 .bit (.cmp .leq (.lit 0) (.var 8))
 (.lett 445 .bit (.cmp .lss (.var 8) (.var 443))
 (.nz (.var 444)
 (.nz (.var 445)
 (.lett 491 (.int .i64) (.lget (.var 1) (.var 8))
 (.lett 539 (.lst (.int .i64)) (.lsub (.var 1) (.lit 0) (.var 7))
 (.lett 540 (.lst .num) (.lsub (.var 2) (.lit 0) (.var 7))
 (.req 0 [(.var 0), (.var 539), (.var 540), (.var 491)]
 (.lett 541 .num (.app 0 0 [(.var 0), (.var 539), (.var 540), (.var 491)])
 (.lett 683 (.int .i64) (.llen (.var 2))
 (.lett 684 .bit (.cmp .leq (.lit 0) (.var 8))
 (.lett 685 .bit (.cmp .lss (.var 8) (.var 683))
 (.nz (.var 684)
 (.nz (.var 685)
 (.lett 731 .num (.lget (.var 2) (.var 8))
 (.lett 779 .bit (.eqs [((.limb 541 0), (.limb 731 0)), ((.limb 541 1), (.limb 731 1)), ((.limb 541 2), (.limb 731 2)), ((.limb 541 3), (.limb 731 3)), ((.limb 541 4), (.limb 731 4)), ((.limb 541 5), (.limb 731 5))])
 (.lett 780 .bit (.not (.var 779))
 (.split 780
  (.ret [(.lit 0)])
  (.lett 827 (.int .i64) (.bin .add .i64 (.var 8) (.lit 1))
  (.back 0 [(.var 827)])))))))))))))))))))))))))))))))))))
 (.ret [(.lit 1)])))))))))
theorem law_rFit (f1 f : FuncId) (e : Nat → Int) (hpre : (kRFit f).pre [e 0, e 1, e 2, e 3]) : tRFit.says [kRJoin f1] ⟨fun ys => ys = (kRFit f).sem [e 0, e 1, e 2, e 3], []⟩ e := by
  obtain ⟨hp, hnd, hd0, hd1⟩ : joinPre (e 0) (dec (e 1)) (dec (e 2)) 0 ∧ (dec (e 1)).Nodup ∧ 0 ≤ e 3 ∧ e 3 ≤ 1000 := hpre
  show tRFit.says [kRJoin f1] ⟨fun ys => ys = [fitB (e 0) (dec (e 1)) (dec (e 2)) (e 3)], []⟩ e
  intro a4 _ a5 _ a6 _ a7 _
  have v4 : e 4 = e 3 + 1 := by
    have : e 4 = binE .add .i64 (e 3) 1 := a4
    rw [this]; simp only [binE, wr]; omega
  have v5 : e 5 = ((dec (e 1)).length : Int) := a5
  have b6 := c_lt a6
  simp only [ev_var, ev_lit] at b6
  have v7 : e 7 = if e 6 = 1 then e 5 else e 4 := a7
  generalize hL : dec (e 1) = x at *
  generalize hM : dec (e 2) = l at *
  have hlx := hp.2.2.1
  have hll := hp.2.2.2.1
  have w7 : (e 7 = x.length ∧ x.length < e 3 + 1) ∨ (e 7 = e 3 + 1 ∧ e 3 + 1 ≤ x.length) := by
    rcases b6 with ⟨h, h'⟩ | ⟨h, h'⟩
    · rw [if_pos h] at v7; left; omega
    · rw [if_neg (by omega)] at v7; right; omega
  obtain ⟨k, hkd⟩ : ∃ k, k = (e 7).toNat := ⟨_, rfl⟩
  refine ⟨fun | [i] => e 7 ≤ i ∧ ∀ j : Nat, k ≤ j → j < i.toNat → j < x.length → joinV (rOf (e 0)) (x.take k) (l.take k) (x.getD j 0) = l.getD j 0 | _ => False, fun | [i] => (x.length - i).toNat | _ => 0, ⟨Int.le_refl _, fun j h1 h2 _ => by simp only [A.ev] at h2; omega⟩, fun e' he hkk hI => ?_⟩
  obtain ⟨i0, i1⟩ : e 7 ≤ e' 8 ∧ ∀ j : Nat, k ≤ j → j < (e' 8).toNat → j < x.length → joinV (rOf (e 0)) (x.take k) (l.take k) (x.getD j 0) = l.getD j 0 := hI
  have e0 := he 0 (by decide)
  have e1 := he 1 (by decide)
  have e2 := he 2 (by decide)
  have e7 := he 7 (by decide)
  have len : ∀ {v : Int}, v = ((dec (e' 1)).length : Int) → v = (x.length : Int) := fun h => by rw [h, e1, hL]
  have len2 : ∀ {v : Int}, v = ((dec (e' 2)).length : Int) → v = (x.length : Int) := fun h => by rw [h, e2, hM, hll]
  intro a9 _ a10 _
  have v9 := len a9
  have b10 := c_lt a10
  simp only [ev_var, ev_lit] at b10
  refine ⟨fun h => ?_, fun h => ?_⟩
  · have c10 := yes_ h b10
    have hit : (e' 8).toNat < x.length := by omega
    intro a155 _ a156 _ a157 _ a158 _
    have v155 := len a155
    have b156 := c_le a156
    have b157 := c_le a157
    have b158 := c_le a158
    simp only [ev_var, ev_lit] at b156 b157 b158
    refine ⟨(show e' 156 ≠ 0 by omega), (show e' 157 ≠ 0 by omega), (show e' 158 ≠ 0 by omega), fun a299 _ a300 _ a301 _ a302 _ => ?_⟩
    have v299 := len2 a299
    have b300 := c_le a300
    have b301 := c_le a301
    have b302 := c_le a302
    simp only [ev_var, ev_lit] at b300 b301 b302
    refine ⟨(show e' 300 ≠ 0 by omega), (show e' 301 ≠ 0 by omega), (show e' 302 ≠ 0 by omega), fun a443 _ a444 _ a445 _ => ?_⟩
    have v443 := len a443
    have b444 := c_le a444
    have b445 := c_lt a445
    simp only [ev_var, ev_lit] at b444 b445
    refine ⟨(show e' 444 ≠ 0 by omega), (show e' 445 ≠ 0 by omega), fun a491 _ a539 _ a540 _ => ?_⟩
    have v491 : e' 491 = x.getD (e' 8).toNat 0 := by
      have : e' 491 = (dec (e' 1)).getD (e' 8).toNat 0 := a491
      rw [this, e1, hL]
    have v539 : dec (e' 539) = x.take k := by
      have : e' 539 = enc (((dec (e' 1)).take (e' 7).toNat).drop (0 : Int).toNat) := a539
      rw [this, dec_enc, e1, hL, e7, hkd]; rfl
    have v540 : dec (e' 540) = l.take k := by
      have : e' 540 = enc (((dec (e' 2)).take (e' 7).toNat).drop (0 : Int).toNat) := a540
      rw [this, dec_enc, e2, hM, e7, hkd]; rfl
    have hid := hp.2.1 _ (getD_mem hit)
    refine ⟨(show joinPre (e' 0) (dec (e' 539)) (dec (e' 540)) (e' 491) ∧ (dec (e' 539)).Nodup by rw [e0, v539, v540, v491]; exact ⟨joinPre_take hp k hid, nodup_take hnd k⟩), fun a541 k541 a683 _ a684 _ a685 _ => ?_⟩
    have v541 : e' 541 = joinV (rOf (e 0)) (x.take k) (l.take k) (x.getD (e' 8).toNat 0) := by
      have : e' 541 = joinV (rOf (e' 0)) (dec (e' 539)) (dec (e' 540)) (e' 491) := a541
      rw [this, e0, v539, v540, v491]
    have v683 := len2 a683
    have b684 := c_le a684
    have b685 := c_lt a685
    simp only [ev_var, ev_lit] at b684 b685
    refine ⟨(show e' 684 ≠ 0 by omega), (show e' 685 ≠ 0 by omega), fun a731 k731 a779 _ a780 _ => ?_⟩
    have v731 : e' 731 = l.getD (e' 8).toNat 0 := by
      have : e' 731 = (dec (e' 2)).getD (e' 8).toNat 0 := a731
      rw [this, e2, hM]
    have b779 := c_num a779 k541 k731
    have b780 := c_not a780
    simp only [ev_var] at b780
    have hk1 : k = (e 3 + 1).toNat := by omega
    refine ⟨fun h => ?_, fun h => ?_⟩
    · have c779 := no_ (yes_ h b780) b779
      have hno : ¬ fitV (rOf (e 0)) x l (e 3 + 1).toNat := fun hf => c779 (by rw [v541, v731, hk1]; exact hf _ (by omega) hit)
      show [(0 : Int)] = _
      rw [fitB_no hno]
    · have c779 := yes_ (no_ h b780) b779
      intro a827 _
      have v827 : e' 827 = e' 8 + 1 := by
        have : e' 827 = binE .add .i64 (e' 8) 1 := a827
        rw [this]; simp only [binE, wr]; omega
      show (e 7 ≤ e' 827 ∧ ∀ j : Nat, k ≤ j → j < (e' 827).toNat → j < x.length → joinV (rOf (e 0)) (x.take k) (l.take k) (x.getD j 0) = l.getD j 0) ∧ (x.length - e' 827).toNat < (x.length - e' 8).toNat
      refine ⟨⟨by omega, fun j h1 h2 h3 => ?_⟩, by omega⟩
      by_cases hje : j = (e' 8).toNat
      · subst hje; rw [← v541, ← v731]; exact c779
      · exact i1 j h1 (by omega) h3
  · have c10 := no_ h b10
    have hyes : fitV (rOf (e 0)) x l (e 3 + 1).toNat := fun i h1 h2 => by
      have hk1 : k = (e 3 + 1).toNat := by omega
      rw [← hk1] at h1 ⊢; exact i1 i h1 (by omega) h2
    show [(1 : Int)] = _
    rw [fitB_yes hyes]
def kLarge (f : FuncId) : K := { fn := f, ext := false, ins := [iI], outs := [oB], pre := fun _ => True, sem := fun | [n] => [bi ((12 < n ∧ n ≤ 64) ∨ 70 < n)] | _ => [] }
def tLarge : Tree := (.lett 1 .bit (.cmp .gtr (.var 0) (.lit 12))
(.split 1
 (.lett 2 .bit (.cmp .leq (.var 0) (.lit 64))
 (.split 2
  (.ret [(.lit 1)])
  (.lett 3 .bit (.cmp .gtr (.var 0) (.lit 70))
  (.ret [(.var 3)]))))
 (.lett 2 .bit (.cmp .gtr (.var 0) (.lit 70))
 (.ret [(.var 2)]))))
theorem law_large (f : FuncId) (e : Nat → Int) : tLarge.says [] ⟨fun ys => ys = (kLarge f).sem [e 0], []⟩ e := by
  show tLarge.says [] ⟨fun ys => ys = [bi ((12 < e 0 ∧ e 0 ≤ 64) ∨ 70 < e 0)], []⟩ e
  have hb := bi_cases ((12 < e 0 ∧ e 0 ≤ 64) ∨ 70 < e 0)
  generalize bi ((12 < e 0 ∧ e 0 ≤ 64) ∨ 70 < e 0) = b at *
  intro a1 _
  have b1 := c_gt a1
  simp only [ev_var, ev_lit] at b1
  refine ⟨fun h => ?_, fun h => ?_⟩
  · intro a2 _
    have b2 := c_le a2
    simp only [ev_var, ev_lit] at b2
    refine ⟨fun h' => ?_, fun h' => ?_⟩
    · show [(1 : Int)] = [b]; rw [show b = 1 by omega]
    · intro a3 _
      have b3 := c_gt a3
      simp only [ev_var, ev_lit] at b3
      show [e 3] = [b]; rw [show e 3 = b by omega]
  · intro a2 _
    have b2 := c_gt a2
    simp only [ev_var, ev_lit] at b2
    show [e 2] = [b]; rw [show e 2 = b by omega]
def padI (i : Int) : Int := -77 - i
def lentLI (l : List Int) : List Int := l ++ [padI l.length, padI (l.length + 1), padI (l.length + 2)]
noncomputable def kLentI (te : TypeId) (f : FuncId) : K := { fn := f, ext := false, ins := [.lst (.int .i64)], outs := [.lent te (.int .i64)], pre := fun | [x] => (dec x).length ≤ 1000 | _ => False, sem := fun | [x] => [enc (lentLI (dec x)), ((dec x).length : Int)] | _ => [] }
noncomputable def kSameI (f : FuncId) : K := { fn := f, ext := false, ins := [.lst (.int .i64), .lst (.int .i64)], outs := [oB], pre := fun _ => True, sem := fun | [x, y] => [bi (dec x = dec y)] | _ => [] }
noncomputable def kKeptI (f : FuncId) : K := { fn := f, ext := false, ins := [.lent (.int .i64), .lst (.int .i64)], outs := [oB], pre := fun | [x, n, y] => (dec y).length ≤ 1000 | _ => False, sem := fun | [x, n, y] => [bi (n = ((dec y).length : Int) ∧ dec x = lentLI (dec y))] | _ => [] }
def LentII (l : List Int) : List Int → Prop
  | [i, x] => (i = l.length ∧ x = enc (l ++ [0, 0, 0])) ∨ (i = l.length + 1 ∧ x = enc (l ++ [padI l.length, 0, 0])) ∨ (i = l.length + 2 ∧ x = enc (l ++ [padI l.length, padI (l.length + 1), 0])) ∨ (i = l.length + 3 ∧ x = enc (lentLI l))
  | _ => False
theorem lentII_len {l : List Int} {i x : Int} (h : LentII l [i, x]) : (dec x).length = l.length + 3 ∧ (l.length : Int) ≤ i ∧ i ≤ l.length + 3 := by
  rcases h with ⟨h1, h2⟩ | ⟨h1, h2⟩ | ⟨h1, h2⟩ | ⟨h1, h2⟩ <;> rw [h2, dec_enc] <;> refine ⟨by simp [lentLI], by omega, by omega⟩
theorem lentII_step {l : List Int} {i x : Int} (h : LentII l [i, x]) (hi : i < l.length + 3) : LentII l [i + 1, enc ((dec x).set i.toNat (padI i))] := by
  rcases h with ⟨h1, h2⟩ | ⟨h1, h2⟩ | ⟨h1, h2⟩ | ⟨h1, h2⟩
  · subst h1 h2
    refine .inr (.inl ⟨rfl, ?_⟩)
    rw [dec_enc, show ((l.length : Int)).toNat = l.length + 0 by omega, set_behind]; rfl
  · subst h1 h2
    refine .inr (.inr (.inl ⟨by omega, ?_⟩))
    rw [dec_enc, show ((l.length : Int) + 1).toNat = l.length + 1 by omega, set_behind]; rfl
  · subst h1 h2
    refine .inr (.inr (.inr ⟨by omega, ?_⟩))
    rw [dec_enc, show ((l.length : Int) + 2).toNat = l.length + 2 by omega, set_behind]; rfl
  · omega
def tLentI : Tree := (.lett 1 (.int .i64) (.llen (.var 0))
(.lett 2 (.int .i64) (.bin .add .i64 (.var 1) (.lit 3))
(.lett 3 .bit (.cmp .leq (.lit 0) (.var 2))
(.lett 4 .bit (.cmp .lss (.var 2) (.lit 4294967296))
(.nz (.var 3)
(.nz (.var 4)
(.lett 5 (.lst (.int .i64)) (.lrep (.var 2) (.lit 0))
(.lett 6 (.int .i64) (.llen (.var 5))
(.lett 7 .bit (.cmp .lss (.lit 0) (.var 6))
(.nz (.var 7)
(.lett 8 (.lst (.int .i64)) (.lcpy (.var 5) (.var 0))
(.lett 9 (.int .i64) (.llen (.var 0))
(.loop [(.var 9), (.var 8)] [(.int .i64), (.lst (.int .i64))] 10
(.lett 12 (.int .i64) (.llen (.var 11))
(.lett 13 .bit (.cmp .lss (.var 10) (.var 12))
(.split 13
 (.lett 14 (.int .i64) (.bin .sub .i64 (.lit (-77)) (.var 10))
 (.lett 15 (.int .i64) (.llen (.var 11))
 (.lett 16 .bit (.cmp .leq (.lit 0) (.var 10))
 (.lett 17 .bit (.cmp .lss (.var 10) (.var 15))
 (.nz (.var 16)
 (.nz (.var 17)
 (.lett 18 (.lst (.int .i64)) (.lput (.var 11) (.var 10) (.var 14))
 (.lett 19 (.int .i64) (.bin .add .i64 (.var 10) (.lit 1))
 (.back 0 [(.var 19), (.var 18)])))))))))
 (.lett 14 (.int .i64) (.llen (.var 0))
 (.lett 15 (.int .i64) (.llen (.var 11))
 (.lett 16 .bit (.cmp .leq (.lit 0) (.lit 0))
 (.lett 17 .bit (.cmp .leq (.lit 0) (.var 14))
 (.lett 18 .bit (.cmp .leq (.var 14) (.var 15))
 (.nz (.var 16)
 (.nz (.var 17)
 (.nz (.var 18)
 (.ret [(.var 11), (.var 14)])))))))))))))))))))))))))
theorem law_lentI (te : TypeId) (f : FuncId) (e : Nat → Int) (hp : (kLentI te f).pre [e 0]) : tLentI.says [] ⟨fun ys => ys = (kLentI te f).sem [e 0], []⟩ e := by
  have hl : (dec (e 0)).length ≤ 1000 := hp
  simp only [tLentI, kLentI, Tree.says, List.getElem?_cons_zero, List.getElem?_cons_succ, List.map, ev_lit, ev_var, ev_limb, D.ev, List.getD_cons_zero, List.getD_cons_succ]
  intro a1 _ a2 _ a3 _ a4 _
  generalize hL : dec (e 0) = l at *
  have v2 : e 2 = l.length + 3 := by rw [a2, a1]; simp only [binE, wr]; omega
  refine ⟨bit_nz a3 (by omega), lt_nz a4 (by omega), fun a5 _ a6 _ a7 _ => ?_⟩
  rw [v2] at a5
  rw [a5, dec_enc, List.length_replicate] at a6
  refine ⟨lt_nz a7 (by omega), fun a8 _ a9 _ => ?_⟩
  have v8 : e 8 = enc (l ++ [0, 0, 0]) := by
    rw [a8, a5, dec_enc, List.length_replicate, show ((l.length : Int) + 3).toNat = l.length + 3 by omega, List.take_of_length_le (by omega), List.drop_replicate, show l.length + 3 - l.length = 3 by omega]
    rfl
  refine ⟨LentII l, fun | [i, _] => (l.length + 3 - i).toNat | _ => 0, .inl ⟨a9, v8⟩, fun e' he hkk hI => ?_⟩
  have hI : LentII l [e' 10, e' 11] := hI
  obtain ⟨n1, n2, n3⟩ := lentII_len hI
  simp only [he 0 (by decide), hL]
  intro a12 _ a13 _
  have b13 := c_lt a13
  rw [a12, n1] at b13
  refine ⟨fun h => ?_, fun h => ?_⟩
  · intro a14 _ a15 _ a16 _ a17 _
    refine ⟨bit_nz a16 (by omega), lt_nz a17 (by rw [a15, n1]; omega), fun a18 _ a19 _ => ?_⟩
    have v14 : e' 14 = padI (e' 10) := by rw [a14]; simp only [binE, wr, padI]; omega
    have v19 : e' 19 = e' 10 + 1 := by rw [a19]; simp only [binE, wr]; omega
    show LentII l [e' 19, e' 18] ∧ (l.length + 3 - e' 19).toNat < (l.length + 3 - e' 10).toNat
    rw [v19, a18, v14]
    exact ⟨lentII_step hI (by omega), by omega⟩
  · intro a14 _ a15 _ a16 _ a17 _ a18 _
    refine ⟨bit_nz a16 (by omega), bit_nz a17 (by omega), ?_, ?_⟩
    · have := c_le a18; rw [a14, a15, n1] at this; omega
    · rcases hI with ⟨h1, h2⟩ | ⟨h1, h2⟩ | ⟨h1, h2⟩ | ⟨h1, h2⟩
      · omega
      · omega
      · omega
      · rw [h2, a14]
def tSameI : Tree := (.lett 2 (.int .i64) (.llen (.var 0))
(.lett 3 (.int .i64) (.llen (.var 1))
(.lett 4 .bit (.cmp .neq (.var 2) (.var 3))
(.split 4
 (.ret [(.lit 0)])
 (.loop [(.lit 0)] [(.int .i64)] 5
 (.lett 6 (.int .i64) (.llen (.var 0))
 (.lett 7 .bit (.cmp .lss (.var 5) (.var 6))
 (.split 7
  (.lett 104 (.int .i64) (.llen (.var 0))
  (.lett 105 .bit (.cmp .leq (.lit 0) (.var 5))
  (.lett 106 .bit (.cmp .lss (.var 5) (.var 104))
  (.nz (.var 105)
  (.nz (.var 106)
  (.lett 152 (.int .i64) (.lget (.var 0) (.var 5))
  (.lett 296 (.int .i64) (.llen (.var 1))
  (.lett 297 .bit (.cmp .leq (.lit 0) (.var 5))
  (.lett 298 .bit (.cmp .lss (.var 5) (.var 296))
  (.nz (.var 297)
  (.nz (.var 298)
  (.lett 344 (.int .i64) (.lget (.var 1) (.var 5))
  (.lett 392 .bit (.cmp .neq (.var 152) (.var 344))
  (.split 392
   (.ret [(.lit 0)])
   (.lett 440 (.int .i64) (.bin .add .i64 (.var 5) (.lit 1))
   (.back 0 [(.var 440)]))))))))))))))))
  (.ret [(.lit 1)])))))))))
theorem law_sameI (f : FuncId) (e : Nat → Int) (hk : kkHas [.lst (.int .i64), .lst (.int .i64)] [e 0, e 1]) : tSameI.says [] ⟨fun ys => ys = (kSameI f).sem [e 0, e 1], []⟩ e := by
  have hl : (dec (e 0)).length ≤ 9223372036854775807 := hk.1.1
  have hl' : (dec (e 1)).length ≤ 9223372036854775807 := hk.2.1.1
  have hn := hk.1.2
  have hn' := hk.2.1.2
  simp only [tSameI, kSameI, Tree.says, List.getElem?_cons_zero, List.getElem?_cons_succ, List.map, ev_lit, ev_var, ev_limb, D.ev, List.getD_cons_zero, List.getD_cons_succ]
  intro a2 _ a3 _ a4 _
  have b4 := c_ne a4
  rw [a2, a3] at b4
  generalize hL : dec (e 0) = l at *
  generalize hM : dec (e 1) = k at *
  refine ⟨fun h => ?_, fun h => ?_⟩
  · rw [bi_0 (fun hc => by rw [hc] at b4; omega)]
  · have hlen : l.length = k.length := by omega
    refine ⟨fun | [i] => 0 ≤ i ∧ i ≤ l.length ∧ l.take i.toNat = k.take i.toNat | _ => False, fun | [i] => l.length - i.toNat | _ => 0, ⟨Int.le_refl _, by omega, by simp⟩, fun e' he hkk hI => ?_⟩
    obtain ⟨i0, i1, i2⟩ : 0 ≤ e' 5 ∧ e' 5 ≤ l.length ∧ l.take (e' 5).toNat = k.take (e' 5).toNat := hI
    simp only [he 0 (by decide), he 1 (by decide), hL, hM]
    intro a6 _ a7 _
    have b7 := c_lt a7
    refine ⟨fun h => ?_, fun h => ?_⟩
    · intro a104 _ a105 _ a106 _
      refine ⟨bit_nz a105 i0, lt_nz a106 (by omega), fun a152 h152 a296 _ a297 _ a298 _ => ⟨bit_nz a297 i0, lt_nz a298 (by omega), fun a344 h344 a392 _ => ?_⟩⟩
      have hi : (e' 5).toNat < l.length := by omega
      have hi' : (e' 5).toNat < k.length := by omega
      have b392 := c_ne a392
      refine ⟨fun h1 => ?_, fun h1 => ?_⟩
      · rw [bi_0 (fun hc => by rw [a152, a344, hc] at b392; omega)]
      · intro a440 _
        have v440 : e' 440 = e' 5 + 1 := by rw [a440]; simp only [binE, wr]; omega
        show (0 ≤ e' 440 ∧ e' 440 ≤ l.length ∧ l.take (e' 440).toNat = k.take (e' 440).toNat) ∧ l.length - (e' 440).toNat < l.length - (e' 5).toNat
        rw [v440]
        refine ⟨⟨by omega, by omega, ?_⟩, by omega⟩
        rw [show (e' 5 + 1).toNat = (e' 5).toNat + 1 by omega, take_next hi, take_next hi', i2]
        congr 2
        rw [← a152, ← a344]; omega
    · rw [bi_1 ?_]
      rw [List.take_of_length_le (by omega), List.take_of_length_le (by omega)] at i2
      exact i2
def tKeptI : Tree := (.lett 147 (.int .i64) (.llen (.var 2))
(.lett 195 .bit (.cmp .eql (.var 1) (.var 147))
(.split 195
 (.lett 387 (.int .i64) (.llen (.var 0))
 (.lett 435 (.int .i64) (.llen (.var 0))
 (.lett 436 .bit (.cmp .leq (.lit 0) (.lit 0))
 (.lett 437 .bit (.cmp .leq (.lit 0) (.var 387))
 (.lett 438 .bit (.cmp .leq (.var 387) (.var 435))
 (.nz (.var 436)
 (.nz (.var 437)
 (.nz (.var 438)
 (.req 0 [(.var 2)]
 (.lett 531 (.lst (.int .i64)) (.app 0 0 [(.var 2)])
 (.lett 532 (.int .i64) (.app 0 1 [(.var 2)])
 (.lett 627 (.int .i64) (.llen (.var 2))
 (.lett 675 (.int .i64) (.bin .add .i64 (.var 627) (.lit 3))
 (.lett 723 (.int .i64) (.llen (.var 531))
 (.lett 724 .bit (.cmp .leq (.lit 0) (.lit 0))
 (.lett 725 .bit (.cmp .leq (.lit 0) (.var 675))
 (.lett 726 .bit (.cmp .leq (.var 675) (.var 723))
 (.nz (.var 724)
 (.nz (.var 725)
 (.nz (.var 726)
 (.lett 771 (.lst (.int .i64)) (.lsub (.var 0) (.lit 0) (.var 387))
 (.lett 772 (.lst (.int .i64)) (.lsub (.var 531) (.lit 0) (.var 675))
 (.req 1 [(.var 771), (.var 772)]
 (.lett 773 .bit (.app 1 0 [(.var 771), (.var 772)])
 (.ret [(.var 773)])))))))))))))))))))))))))
 (.ret [(.lit 0)]))))
theorem law_keptI (te : TypeId) (f1 f2 f : FuncId) (e : Nat → Int) (hk : kkHas [.lst (.int .i64), .int .i64, .lst (.int .i64)] [e 0, e 1, e 2]) (hp : (kKeptI f).pre [e 0, e 1, e 2]) : tKeptI.says [kLentI te f1, kSameI f2] ⟨fun ys => ys = (kKeptI f).sem [e 0, e 1, e 2], []⟩ e := by
  have hl : (dec (e 2)).length ≤ 1000 := hp
  have hl' : (dec (e 0)).length ≤ 9223372036854775807 := hk.1.1
  simp only [tKeptI, kLentI, kSameI, kKeptI, Tree.says, List.getElem?_cons_zero, List.getElem?_cons_succ, List.map, ev_lit, ev_var, ev_limb, D.ev, List.getD_cons_zero, List.getD_cons_succ]
  intro a147 _ a195 _
  have b195 := c_eq a195
  rw [a147] at b195
  generalize hL : dec (e 2) = l at *
  generalize hM : dec (e 0) = k at *
  refine ⟨fun h => ?_, fun h => ?_⟩
  · intro a387 _ a435 _ a436 _ a437 _ a438 _
    refine ⟨bit_nz a436 (by omega), bit_nz a437 (by omega), ?_, ?_⟩
    · have := c_le a438; rw [a387, a435] at this; omega
    refine ⟨hl, fun a531 _ a532 _ a627 _ a675 _ a723 _ a724 _ a725 _ a726 _ => ?_⟩
    have v675 : e 675 = l.length + 3 := by rw [a675, a627]; simp only [binE, wr]; omega
    have hll : (lentLI l).length = l.length + 3 := by simp [lentLI]
    have v723 : e 723 = l.length + 3 := by rw [a723, a531, dec_enc, hll]; omega
    refine ⟨bit_nz a724 (by omega), bit_nz a725 (by omega), ?_, ?_⟩
    · have := c_le a726; rw [v675, v723] at this; omega
    intro a771 _ a772 _
    refine ⟨trivial, fun a773 _ => ?_⟩
    have e1 : dec (e 771) = k := by
      rw [a771, dec_enc, a387, Int.toNat_natCast, List.take_length]; rfl
    have e2 : dec (e 772) = lentLI l := by
      rw [a772, dec_enc, v675, a531, dec_enc, List.take_of_length_le (by rw [hll]; omega)]; rfl
    rw [a773, e1, e2, bi_and1 (by omega)]
  · rw [bi_and0 (by omega)]
/-! ### a suite's numbers -/
end Go.Sx

/- Laws: an id that may not be. -/
namespace Go.Sx
open Go Go.RowKit
set_option maxRecDepth 100000
set_option linter.unusedVariables false
set_option linter.unusedSimpArgs false
/-- is there an id that may not be: a list and the function of one id -/
noncomputable def kCont (g f : FuncId) : K := { fn := f, ext := false, ins := [iLi, .one (.cst (.fn g []))], outs := [oB], pre := fun _ => True, sem := fun | [x] => [bi (¬ idsOk (dec x))] | _ => [] }
def tCont : Tree := (.lett 1 (.int .i64) (.llen (.var 0))
(.loop [(.lit 0)] [(.int .i64)] 2
(.lett 3 .bit (.cmp .lss (.var 2) (.var 1))
(.split 3
 (.lett 4 (.int .i64) (.llen (.var 0))
 (.lett 5 .bit (.cmp .leq (.lit 0) (.var 2))
 (.lett 6 .bit (.cmp .lss (.var 2) (.var 4))
 (.nz (.var 5)
 (.nz (.var 6)
 (.lett 7 (.int .i64) (.lget (.var 0) (.var 2))
 (.lett 8 .bit (.cmp .lss (.var 7) (.lit 1))
 (.split 8
  (.lett 9 .bit (.cmp .geq (.var 2) (.lit 0))
  (.ret [(.var 9)]))
  (.lett 9 .bit (.cmp .gtr (.var 7) (.lit 1000))
  (.split 9
   (.lett 10 .bit (.cmp .geq (.var 2) (.lit 0))
   (.ret [(.var 10)]))
   (.lett 10 (.int .i64) (.bin .add .i64 (.var 2) (.lit 1))
   (.back 0 [(.var 10)]))))))))))))
 (.ret [(.lit 0)])))))
theorem law_cont (g f : FuncId) (e : Nat → Int) (hk : kkHas [.lst (.int .i64)] [e 0]) : tCont.says [] ⟨fun ys => ys = (kCont g f).sem [e 0], []⟩ e := by
  have hl : (dec (e 0)).length ≤ 9223372036854775807 := hk.1.1
  show tCont.says [] ⟨fun ys => ys = [bi (¬ idsOk (dec (e 0)))], []⟩ e
  generalize hL : dec (e 0) = l at *
  intro a1 _
  have v1 : e 1 = (l.length : Int) := by
    have : e 1 = ((dec (e 0)).length : Int) := a1
    rw [this, hL]
  refine ⟨fun | [i] => 0 ≤ i ∧ i ≤ l.length ∧ okTo l i.toNat | _ => False, fun | [i] => (l.length - i).toNat | _ => 0, ⟨Int.le_refl _, (show (0 : Int) ≤ l.length by omega), fun j hj => by cases hj⟩, fun e' he hkk hI => ?_⟩
  obtain ⟨i0, i1, i2⟩ : 0 ≤ e' 2 ∧ e' 2 ≤ l.length ∧ okTo l (e' 2).toNat := hI
  have e0 := he 0 (by decide)
  have e1 := (he 1 (by decide)).trans v1
  intro a3 _
  have b3 := c_lt a3
  simp only [ev_var, ev_lit] at b3
  refine ⟨fun h => ?_, fun h => ?_⟩
  · have c3 := yes_ h b3
    have hit : (e' 2).toNat < l.length := by omega
    intro a4 _ a5 _ a6 _
    have v4 : e' 4 = (l.length : Int) := by
      have : e' 4 = ((dec (e' 0)).length : Int) := a4
      rw [this, e0, hL]
    have b5 := c_le a5
    have b6 := c_lt a6
    simp only [ev_var, ev_lit] at b5 b6
    refine ⟨(show e' 5 ≠ 0 by omega), (show e' 6 ≠ 0 by omega), fun a7 _ a8 _ => ?_⟩
    have v7 : e' 7 = l.getD (e' 2).toNat 0 := by
      have : e' 7 = (dec (e' 0)).getD (e' 2).toNat 0 := a7
      rw [this, e0, hL]
    have b8 := c_lt a8
    simp only [ev_var, ev_lit] at b8
    have bad : (¬ (1 ≤ l.getD (e' 2).toNat 0 ∧ l.getD (e' 2).toNat 0 ≤ 1000)) → [(1 : Int)] = [bi (¬ idsOk l)] := fun h => by
      rw [bi_1 (p := ¬ idsOk l) (fun hc => h ((okTo_iff l).1 hc _ hit))]
    refine ⟨fun h => ?_, fun h => ?_⟩
    · have c8 := yes_ h b8
      intro a9 _
      have b9 := c_ge a9
      simp only [ev_var, ev_lit] at b9
      show [e' 9] = _
      rw [← bad (by omega), show e' 9 = 1 by omega]
    · have c8 := no_ h b8
      intro a9 _
      have b9 := c_gt a9
      simp only [ev_var, ev_lit] at b9
      refine ⟨fun h => ?_, fun h => ?_⟩
      · have c9 := yes_ h b9
        intro a10 _
        have b10 := c_ge a10
        simp only [ev_var, ev_lit] at b10
        show [e' 10] = _
        rw [← bad (by omega), show e' 10 = 1 by omega]
      · have c9 := no_ h b9
        intro a10 _
        have v10 : e' 10 = e' 2 + 1 := by
          have : e' 10 = binE .add .i64 (e' 2) 1 := a10
          rw [this]; simp only [binE, wr]; omega
        show (0 ≤ e' 10 ∧ e' 10 ≤ l.length ∧ okTo l (e' 10).toNat) ∧ (l.length - e' 10).toNat < (l.length - e' 2).toNat
        refine ⟨⟨by omega, by omega, fun j hj => ?_⟩, by omega⟩
        by_cases hje : j = (e' 2).toNat
        · subst hje; omega
        · exact i2 j (by omega)
  · have c3 := no_ h b3
    have hok : idsOk l := (okTo_iff l).2 (by rw [show (e' 2).toNat = l.length by omega] at i2; exact i2)
    show [(0 : Int)] = [bi (¬ idsOk l)]
    rw [bi_0 (p := ¬ idsOk l) (fun h => h hok)]
end Go.Sx

/- Plain: what enough shares of a polynomial join to is its value. -/
namespace Go.Sx
open Go
set_option linter.unusedVariables false
/-- the same to a modulus -/
def eqm (r a b : Int) : Prop := r ∣ a - b
section
variable {r a b c d : Int}
theorem eqm.refl (r a : Int) : eqm r a a := ⟨0, by omega⟩
theorem eqm.symm (h : eqm r a b) : eqm r b a := by obtain ⟨k, hk⟩ := h; exact ⟨-k, by grind⟩
theorem eqm.trans (h : eqm r a b) (h' : eqm r b c) : eqm r a c := by obtain ⟨k, hk⟩ := h; obtain ⟨l, hl⟩ := h'; exact ⟨k + l, by grind⟩
theorem eqm.add (h : eqm r a b) (h' : eqm r c d) : eqm r (a + c) (b + d) := by obtain ⟨k, hk⟩ := h; obtain ⟨l, hl⟩ := h'; exact ⟨k + l, by grind⟩
theorem eqm.sub (h : eqm r a b) (h' : eqm r c d) : eqm r (a - c) (b - d) := by obtain ⟨k, hk⟩ := h; obtain ⟨l, hl⟩ := h'; exact ⟨k - l, by grind⟩
theorem eqm.mul (h : eqm r a b) (h' : eqm r c d) : eqm r (a * c) (b * d) := by obtain ⟨k, hk⟩ := h; obtain ⟨l, hl⟩ := h'; exact ⟨a * l + k * d, by grind⟩
theorem eqm.md (r a : Int) : eqm r (a % r) a := ⟨-(a / r), by have := Int.emod_add_mul_ediv a r; grind⟩
theorem eqm.of_eq (h : a = b) : eqm r a b := h ▸ eqm.refl r a
theorem eqm.emod (h : eqm r a b) : a % r = b % r := Int.emod_eq_emod_iff_emod_sub_eq_zero.2 (Int.emod_eq_zero_of_dvd h)
theorem eqm_of_emod (h : a % r = b % r) : eqm r a b := Int.dvd_of_emod_eq_zero (Int.emod_eq_emod_iff_emod_sub_eq_zero.1 h)
end
/-- all but 0 have inverses -/
def Inv (r : Int) : Prop := 1 < r ∧ ∀ a, 0 < a → a < r → ∃ y, (0 ≤ y ∧ y < r) ∧ a * y % r = 1
theorem inv_all {s : Int} (hs : isS s) : Inv (rOf s) := by
  have := rOf_big hs
  exact ⟨by omega, fun a h0 h1 => ⟨_, ⟨Int.emod_nonneg _ (by omega), Int.emod_lt_of_pos _ (by omega)⟩, fermatAll s a hs h0 h1⟩⟩
theorem inv_eqm {r a : Int} (h : Inv r) (ha : ¬ eqm r a 0) : ∃ y, eqm r (a * y) 1 := by
  have h0 := Int.emod_nonneg a (show r ≠ 0 by have := h.1; omega)
  have h1 := Int.emod_lt_of_pos a (show 0 < r by have := h.1; omega)
  have hne : a % r ≠ 0 := fun h => ha (by have := Int.dvd_of_emod_eq_zero h; unfold eqm; simpa using this)
  obtain ⟨y, _, hy⟩ := h.2 (a % r) (by omega) h1
  refine ⟨y, ((eqm.md r a).symm.mul (eqm.refl r y)).trans (eqm_of_emod ?_)⟩
  rw [hy, Int.emod_eq_of_lt (by omega) h.1]
theorem no_div {r a b : Int} (h : Inv r) (hab : eqm r (a * b) 0) (ha : ¬ eqm r a 0) : eqm r b 0 := by
  obtain ⟨y, hy⟩ := inv_eqm h ha
  have h1 : eqm r (y * (a * b)) (y * 0) := (eqm.refl r y).mul hab
  have h2 : eqm r ((a * y) * b) (1 * b) := hy.mul (eqm.refl r b)
  rw [show a * y * b = y * (a * b) by grind, Int.one_mul] at h2
  rw [Int.mul_zero] at h1
  exact h2.symm.trans h1
theorem far_ne {r i j : Int} (hr : 1000 < r) (hi : 0 ≤ i ∧ i ≤ 1000) (hj : 0 ≤ j ∧ j ≤ 1000) (h : i ≠ j) : ¬ eqm r (i - j) 0 := by
  intro hd
  unfold eqm at hd
  have := Int.eq_zero_of_dvd_of_natAbs_lt_natAbs hd (by omega)
  omega
/-! ### polynomials -/
def plusL : List Int → List Int → List Int
  | [], d => d
  | a :: c, [] => a :: c
  | a :: c, b :: d => (a + b) :: plusL c d
theorem polyV_add : ∀ (c d : List Int) (x : Int), polyV (plusL c d) x = polyV c x + polyV d x
  | [], d, x => by simp [plusL, polyV]
  | a :: c, [], x => by simp [plusL, polyV]
  | a :: c, b :: d, x => by
    simp only [plusL, polyV, polyV_add c d x]
    grind
theorem plusL_len : ∀ (c d : List Int) (k : Nat), c.length ≤ k → d.length ≤ k → (plusL c d).length ≤ k
  | [], d, k, _, h => h
  | a :: c, [], k, h, _ => h
  | a :: c, b :: d, k, h, h' => by
    cases k with
    | zero => simp at h
    | succ k =>
      simp only [plusL, List.length_cons] at *
      have := plusL_len c d k (by omega) (by omega)
      omega
theorem polyV_smul (y : Int) : ∀ (c : List Int) (x : Int), polyV (c.map (y * ·)) x = y * polyV c x
  | [], x => by simp [polyV]
  | a :: c, x => by
    simp only [List.map_cons, polyV, polyV_smul y c x]
    grind
def IsPoly (r : Int) (k : Nat) (f : Int → Int) : Prop := ∃ c : List Int, c.length ≤ k ∧ ∀ x, eqm r (f x) (polyV c x)
section
variable {r : Int} {k : Nat} {f g : Int → Int}
theorem IsPoly.const (y : Int) : IsPoly r 1 (fun _ => y) := ⟨[y], Nat.le_refl _, fun x => eqm.of_eq (by simp [polyV])⟩
theorem IsPoly.zero : IsPoly r k (fun _ => 0) := ⟨[], Nat.zero_le _, fun x => eqm.of_eq (by simp [polyV])⟩
theorem IsPoly.congr (h : IsPoly r k f) (hg : ∀ x, eqm r (g x) (f x)) : IsPoly r k g := by
  obtain ⟨c, h1, h2⟩ := h
  exact ⟨c, h1, fun x => (hg x).trans (h2 x)⟩
theorem IsPoly.add (h : IsPoly r k f) (h' : IsPoly r k g) : IsPoly r k (fun x => f x + g x) := by
  obtain ⟨c, h1, h2⟩ := h
  obtain ⟨d, h3, h4⟩ := h'
  exact ⟨plusL c d, plusL_len c d k h1 h3, fun x => by rw [polyV_add]; exact (h2 x).add (h4 x)⟩
theorem IsPoly.smul (y : Int) (h : IsPoly r k f) : IsPoly r k (fun x => y * f x) := by
  obtain ⟨c, h1, h2⟩ := h
  exact ⟨c.map (y * ·), by rw [List.length_map]; exact h1, fun x => by rw [polyV_smul]; exact (eqm.refl r y).mul (h2 x)⟩
theorem IsPoly.mono {k' : Nat} (h : IsPoly r k f) (hk : k ≤ k') : IsPoly r k' f := by
  obtain ⟨c, h1, h2⟩ := h
  exact ⟨c, by omega, h2⟩
theorem IsPoly.lin (j : Int) (h : IsPoly r k f) : IsPoly r (k + 1) (fun x => f x * (x - j)) := by
  obtain ⟨c, h1, h2⟩ := h
  refine ⟨plusL (0 :: c) (c.map (-j * ·)), plusL_len _ _ _ (by simpa using h1) (by rw [List.length_map]; omega), fun x => ?_⟩
  rw [polyV_add, polyV_smul]
  simp only [polyV]
  refine ((h2 x).mul (eqm.refl r (x - j))).trans (eqm.of_eq ?_)
  grind
end
/-- one place's factor out of a polynomial -/
theorem poly_div (a : Int) : ∀ c : List Int, ∃ q : List Int, q.length ≤ c.length - 1 ∧ ∀ x, polyV c x - polyV c a = (x - a) * polyV q x
  | [] => ⟨[], Nat.zero_le _, fun x => by simp [polyV]⟩
  | [c0] => ⟨[], Nat.zero_le _, fun x => by simp [polyV]⟩
  | c0 :: c1 :: c => by
    obtain ⟨q, h1, h2⟩ := poly_div a (c1 :: c)
    refine ⟨polyV (c1 :: c) a :: q, by simp only [List.length_cons] at *; omega, fun x => ?_⟩
    have := h2 x
    show c0 + x * polyV (c1 :: c) x - (c0 + a * polyV (c1 :: c) a) = (x - a) * (polyV (c1 :: c) a + x * polyV q x)
    generalize polyV (c1 :: c) x = u at *
    generalize polyV (c1 :: c) a = v at *
    generalize polyV q x = w at *
    grind
theorem vanish {r : Int} (h : Inv r) : ∀ (pts c : List Int), c.length ≤ pts.length → pts.Pairwise (fun i j => ¬ eqm r (j - i) 0) → (∀ p ∈ pts, eqm r (polyV c p) 0) → ∀ x, eqm r (polyV c x) 0
  | [], c, hl, _, _, x => by
    have : c = [] := List.eq_nil_of_length_eq_zero (by simpa using hl)
    subst this
    exact eqm.of_eq rfl
  | a :: pts, c, hl, hp, hv, x => by
    obtain ⟨q, h1, h2⟩ := poly_div a c
    have hp' := List.pairwise_cons.1 hp
    have ha := hv a (List.mem_cons_self ..)
    have hq := vanish h pts q (by simp only [List.length_cons] at hl; omega) hp'.2 (fun p hpm => by
      have e1 := hv p (List.mem_cons_of_mem _ hpm)
      have e2 : eqm r ((p - a) * polyV q p) 0 := by rw [← h2 p]; simpa using e1.sub ha
      exact no_div h e2 (hp'.1 p hpm))
    have e3 : eqm r (polyV c x - polyV c a) 0 := by rw [h2 x]; simpa using (eqm.refl r (x - a)).mul (hq x)
    have := e3.add ha
    simpa using this
/-! ### sums -/
def sumI (g : Int → Int) : List Int → Int
  | [] => 0
  | i :: l => g i + sumI g l
theorem dotV_sum (r : Int) (u v : Int → Int) (l : List Int) : eqm r (dotV r (l.map fun i => (u i, v i))) (sumI (fun i => u i * v i) l) := by
  unfold dotV
  suffices h : ∀ (l : List Int) (acc acc' : Int), eqm r acc acc' → eqm r ((l.map fun i => (u i, v i)).foldl (fun acc q => (acc + q.1 * q.2 % r) % r) acc) (acc' + sumI (fun i => u i * v i) l) by
    have := h l 0 0 (eqm.refl r 0)
    simpa using this
  intro l
  induction l with
  | nil => intro acc acc' h; simpa [sumI] using h
  | cons i l ih =>
    intro acc acc' h
    rw [List.map_cons, List.foldl_cons]
    have := ih ((acc + u i * v i % r) % r) (acc' + u i * v i) ((eqm.md r _).trans (h.add (eqm.md r _)))
    rw [show acc' + u i * v i + sumI (fun i => u i * v i) l = acc' + sumI (fun i => u i * v i) (i :: l) by simp only [sumI]; omega] at this
    exact this
theorem sum_none {g : Int → Int} {m : Int} : ∀ l : List Int, m ∉ l → (∀ i ∈ l, i ≠ m → g i = 0) → sumI g l = 0
  | [], _, _ => rfl
  | i :: l, hm, hg => by
    simp only [List.mem_cons, not_or] at hm
    rw [sumI, hg i (List.mem_cons_self ..) (fun e => hm.1 e.symm), sum_none l hm.2 fun j hj => hg j (List.mem_cons_of_mem _ hj)]; rfl
theorem sum_pick {g : Int → Int} {m : Int} : ∀ l : List Int, l.Nodup → m ∈ l → (∀ i ∈ l, i ≠ m → g i = 0) → sumI g l = g m
  | [], _, hm, _ => by cases hm
  | i :: l, hn, hm, hg => by
    have hn' := List.nodup_cons.1 hn
    by_cases he : m = i
    · subst he
      rw [sumI, sum_none l hn'.1 fun j hj => hg j (List.mem_cons_of_mem _ hj)]; omega
    · have hm' : m ∈ l := by rcases List.mem_cons.1 hm with h | h; exact absurd h he; exact h
      rw [sumI, hg i (List.mem_cons_self ..) (fun e => he e.symm), sum_pick l hn'.2 hm' fun j hj => hg j (List.mem_cons_of_mem _ hj)]; omega
theorem IsPoly.sum {r : Int} {k : Nat} (u : Int → Int → Int) : ∀ l : List Int, (∀ i ∈ l, IsPoly r k (fun x => u x i)) → IsPoly r k (fun x => sumI (u x) l)
  | [], _ => IsPoly.zero
  | i :: l, h => (h i (List.mem_cons_self ..)).add (IsPoly.sum u l fun j hj => h j (List.mem_cons_of_mem _ hj))
/-! ### the Lagrange numbers -/
def upF (r : Int) (i x : Int) (l : List Int) (acc : Int) : Int := l.foldl (fun acc j => if j ≠ i then acc * ((x - j) % r) % r else acc) acc
theorem upF_poly (r i : Int) : ∀ (l : List Int) (k : Nat) (g : Int → Int), IsPoly r k g → IsPoly r (k + (l.filter fun j => decide (j ≠ i)).length) (fun x => upF r i x l (g x))
  | [], k, g, h => h
  | j :: l, k, g, h => by
    by_cases hj : j ≠ i
    · have h1 : IsPoly r (k + 1) (fun x => g x * ((x - j) % r) % r) := (h.lin j).congr fun x => (eqm.md r _).trans ((eqm.refl r _).mul (eqm.md r _))
      have := upF_poly r i l (k + 1) _ h1
      rw [List.filter_cons_of_pos (by simpa using hj), List.length_cons, show k + ((l.filter fun j => decide (j ≠ i)).length + 1) = k + 1 + (l.filter fun j => decide (j ≠ i)).length by omega]
      refine this.congr fun x => eqm.of_eq ?_
      show upF r i x (j :: l) (g x) = _
      unfold upF
      rw [List.foldl_cons, if_pos hj]
    · have := upF_poly r i l k g h
      rw [List.filter_cons_of_neg (by simpa using hj)]
      refine this.congr fun x => eqm.of_eq ?_
      show upF r i x (j :: l) (g x) = _
      unfold upF
      rw [List.foldl_cons, if_neg hj]
theorem upF_zero (r i m : Int) (hmi : m ≠ i) : ∀ (l : List Int) (acc : Int), (acc = 0 ∨ m ∈ l) → upF r i m l acc = 0
  | [], acc, h => by
    rcases h with h | h
    · exact h
    · cases h
  | j :: l, acc, h => by
    unfold upF
    rw [List.foldl_cons]
    refine upF_zero r i m hmi l _ ?_
    rcases h with h | h
    · left; subst h; split <;> simp
    · rcases List.mem_cons.1 h with h | h
      · left; subst h; rw [if_pos hmi]; simp
      · exact .inr h
theorem upF_ne {r i : Int} (h : Inv r) : ∀ (l : List Int) (acc : Int), ¬ eqm r acc 0 → (∀ j ∈ l, j ≠ i → ¬ eqm r (i - j) 0) → ¬ eqm r (upF r i i l acc) 0
  | [], acc, ha, _ => ha
  | j :: l, acc, ha, hl => by
    unfold upF
    rw [List.foldl_cons]
    refine upF_ne h l _ ?_ fun q hq => hl q (List.mem_cons_of_mem _ hq)
    split
    · rename_i hj
      intro hz
      have h1 : eqm r (acc * ((i - j) % r)) 0 := (eqm.md r _).symm.trans hz
      exact hl j (List.mem_cons_self ..) hj ((eqm.md r _).symm.trans (no_div h h1 ha))
    · exact ha
theorem lag_poly (r : Int) (ids : List Int) {i : Int} (hi : i ∈ ids) : IsPoly r ids.length (fun x => lagAt r ids x i) := by
  have h := upF_poly r i ids 1 _ (IsPoly.const 1)
  have hlt : (ids.filter fun j => decide (j ≠ i)).length < ids.length := List.length_filter_lt_length_iff_exists.2 ⟨i, hi, by simp⟩
  refine ((h.mono (by omega)).smul (invM r (upV r ids i i))).congr fun x => ?_
  refine (eqm.md r _).trans (eqm.of_eq ?_)
  show upV r ids i x * _ = _ * upF r i x ids 1
  rw [Int.mul_comm]; rfl
theorem lag_other (r : Int) {ids : List Int} {i m : Int} (hm : m ∈ ids) (h : m ≠ i) : lagAt r ids m i = 0 := by
  have : upV r ids i m = 0 := upF_zero r i m h ids 1 (.inr hm)
  unfold lagAt
  rw [this, Int.zero_mul]; rfl
theorem lag_ne {r : Int} (h : Inv r) (hr : 1000 < r) {ids : List Int} (hok : idsOk ids) {i : Int} (hi : i ∈ ids) : ¬ eqm r (upV r ids i i) 0 := by
  refine upF_ne h ids 1 (fun hz => ?_) fun j hj hne => far_ne hr ⟨by have := hok i hi; omega, (hok i hi).2⟩ ⟨by have := hok j hj; omega, (hok j hj).2⟩ (fun e => hne e.symm)
  have := hz.emod
  rw [Int.emod_eq_of_lt (by omega) h.1] at this
  simp at this
theorem inv_of {r a : Int} (h : Inv r) (h0 : 0 ≤ a ∧ a < r) (hne : ¬ eqm r a 0) : a * invM r a % r = 1 := by
  have : a ≠ 0 := fun e => hne (eqm.of_eq e)
  obtain ⟨y, hy, hy1⟩ := h.2 a (by omega) h0.2
  rw [(invM_eq hy hy1).1]; exact hy1
theorem lag_self {r : Int} (h : Inv r) (hr : 1000 < r) {ids : List Int} (hok : idsOk ids) {i : Int} (hi : i ∈ ids) : lagAt r ids i i = 1 :=
  inv_of h (upV_lt h.1 ids i i) (lag_ne h hr hok hi)
theorem join_sum (r : Int) (ids : List Int) (y : Int → Int) (x : Int) : eqm r (joinV r ids (ids.map y) x) (sumI (fun i => lagAt r ids x i * y i) ids) := by
  unfold joinV lagV
  rw [List.zip_map']
  exact dotV_sum r _ _ ids
theorem sum_node {r : Int} (h : Inv r) (hr : 1000 < r) {ids : List Int} (hok : idsOk ids) (hn : ids.Nodup) (y : Int → Int) {m : Int} (hm : m ∈ ids) : sumI (fun i => lagAt r ids m i * y i) ids = y m := by
  rw [sum_pick ids hn hm fun i hi hne => by rw [lag_other r hm (fun e => hne e.symm), Int.zero_mul], lag_self h hr hok hm, Int.one_mul]
/-- at a share's own place -/
theorem join_node {r : Int} (h : Inv r) (hr : 1000 < r) {ids : List Int} (hok : idsOk ids) (hn : ids.Nodup) (y : Int → Int) {m : Int} (hm : m ∈ ids) : joinV r ids (ids.map y) m = y m % r := by
  have h1 := (join_sum r ids y m).emod
  rw [sum_node h hr hok hn y hm] at h1
  have h2 := dotV_lt (show 0 < r by omega) ((lagV r ids m).zip (ids.map y))
  rw [← h1]
  exact (Int.emod_eq_of_lt h2.1 h2.2).symm
/-- what enough shares join to -/
theorem interp {r : Int} (h : Inv r) (hr : 1000 < r) {ids : List Int} (hok : idsOk ids) (hn : ids.Nodup) (c : List Int) (hc : c.length ≤ ids.length) (x : Int) :
    joinV r ids (ids.map fun i => polyV c i % r) x = polyV c x % r := by
  have h1 := join_sum r ids (fun i => polyV c i % r) x
  obtain ⟨d, d1, d2⟩ := IsPoly.sum (r := r) (k := ids.length) (fun x i => lagAt r ids x i * (polyV c i % r)) ids fun i hi =>
    ((lag_poly r ids hi).smul (polyV c i % r)).congr fun x => eqm.of_eq (Int.mul_comm ..)
  have hv : ∀ p ∈ ids, eqm r (polyV (plusL c (d.map (-1 * ·))) p) 0 := fun p hp => by
    rw [polyV_add, polyV_smul]
    have e1 : eqm r (sumI (fun i => lagAt r ids p i * (polyV c i % r)) ids) (polyV d p) := d2 p
    rw [sum_node h hr hok hn (fun i => polyV c i % r) hp] at e1
    have e2 := (eqm.md r (polyV c p)).symm.trans e1
    have e3 := e2.sub (eqm.refl r (polyV d p))
    rw [show polyV c p + -1 * polyV d p = polyV c p - polyV d p by omega]
    simpa using e3
  have hpw : ids.Pairwise (fun i j => ¬ eqm r (j - i) 0) := by
    refine List.Pairwise.imp_of_mem (R := fun a b => a ≠ b) (fun {a b} ha hb hne => ?_) hn
    have h1 := hok a ha
    have h2 := hok b hb
    exact far_ne hr ⟨by omega, h2.2⟩ ⟨by omega, h1.2⟩ (fun e => hne e.symm)
  have hz := vanish h ids _ (plusL_len _ _ _ hc (by rw [List.length_map]; exact d1)) hpw hv x
  rw [polyV_add, polyV_smul] at hz
  have e4 : eqm r (polyV d x) (polyV c x) := by
    have := hz.add (eqm.refl r (polyV d x))
    rw [show polyV c x + -1 * polyV d x + polyV d x = polyV c x by omega, Int.zero_add] at this
    exact this.symm
  have e5 := (h1.trans ((d2 x).trans e4)).emod
  have h2 := dotV_lt (show 0 < r by omega) ((lagV r ids x).zip (ids.map fun i => polyV c i % r))
  rw [← e5]
  exact (Int.emod_eq_of_lt h2.1 h2.2).symm
end Go.Sx

/- Plain: shares and a secret have a polynomial. -/
namespace Go.Sx
open Go
set_option linter.unusedVariables false
theorem map_exists : ∀ (ids l : List Int), ids.Nodup → ids.length = l.length → ∃ y : Int → Int, ids.map y = l
  | [], [], _, _ => ⟨fun _ => 0, rfl⟩
  | [], _ :: _, _, h => by cases h
  | _ :: _, [], _, h => by cases h
  | z :: ids, a :: l, hn, h => by
    obtain ⟨y, hy⟩ := map_exists ids l (List.nodup_cons.1 hn).2 (by simpa using h)
    refine ⟨fun w => if w = z then a else y w, ?_⟩
    rw [List.map_cons, if_pos rfl, ← hy]
    congr 1
    refine List.map_congr_left fun w hw => if_neg fun e => ?_
    subst e; exact (List.nodup_cons.1 hn).1 hw
theorem upF_ne' {r i x : Int} (h : Inv r) : ∀ (l : List Int) (acc : Int), ¬ eqm r acc 0 → (∀ j ∈ l, j ≠ i → ¬ eqm r (x - j) 0) → ¬ eqm r (upF r i x l acc) 0
  | [], acc, ha, _ => ha
  | j :: l, acc, ha, hl => by
    unfold upF
    rw [List.foldl_cons]
    refine upF_ne' h l _ ?_ fun q hq => hl q (List.mem_cons_of_mem _ hq)
    split
    · rename_i hj
      intro hz
      have h1 : eqm r (acc * ((x - j) % r)) 0 := (eqm.md r _).symm.trans hz
      exact hl j (List.mem_cons_self ..) hj ((eqm.md r _).symm.trans (no_div h h1 ha))
    · exact ha
theorem one_ne {r : Int} (h : Inv r) : ¬ eqm r 1 0 := fun hz => by
  have := hz.emod
  rw [Int.emod_eq_of_lt (by omega) h.1] at this
  simp at this
theorem lag_nz {r : Int} (h : Inv r) (hr : 1000 < r) {ids : List Int} (hok : idsOk ids) {i : Int} (hi : i ∈ ids) : ¬ eqm r (lagAt r ids 0 i) 0 := by
  have h0 : ¬ eqm r (upV r ids i 0) 0 := upF_ne' h ids 1 (one_ne h) fun j hj hne => far_ne hr ⟨by omega, by omega⟩ ⟨by have := hok j hj; omega, (hok j hj).2⟩ (by have := hok j hj; omega)
  intro hz
  have h1 : eqm r (upV r ids i 0 * invM r (upV r ids i i)) 0 := (eqm.md r _).symm.trans hz
  have h2 := no_div h h1 h0
  have h3 : eqm r (upV r ids i i * invM r (upV r ids i i)) (upV r ids i i * 0) := (eqm.refl r _).mul h2
  have h4 := inv_of h (upV_lt h.1 ids i i) (lag_ne h hr hok hi)
  have h5 : eqm r (upV r ids i i * invM r (upV r ids i i)) 1 := eqm_of_emod (by rw [h4, Int.emod_eq_of_lt (by omega) h.1])
  rw [Int.mul_zero] at h3
  exact one_ne h (h5.symm.trans h3)
/-- what is left of the secret -/
def leftF (r : Int) (s : Int) (p : List (Int × Int)) : Int := p.foldl (fun acc q => (acc - q.1 * q.2 % r) % r) s
theorem leftF_sum (r : Int) (u v : Int → Int) : ∀ (l : List Int) (s : Int), eqm r (leftF r s (l.map fun i => (u i, v i))) (s - sumI (fun i => u i * v i) l)
  | [], s => eqm.of_eq (by show s = s - 0; omega)
  | z :: l, s => by
    have h := leftF_sum r u v l ((s - u z * v z % r) % r)
    refine eqm.trans h ?_
    have h2 : eqm r ((s - u z * v z % r) % r) (s - u z * v z) := (eqm.md r _).trans ((eqm.refl r s).sub (eqm.md r _))
    refine (h2.sub (eqm.refl r _)).trans (eqm.of_eq ?_)
    simp only [sumI]; omega
theorem leftF_lt {r : Int} (hr : 0 < r) : ∀ (p : List (Int × Int)) (s : Int), 0 ≤ s ∧ s < r → 0 ≤ leftF r s p ∧ leftF r s p < r
  | [], s, h => h
  | q :: p, s, h => leftF_lt hr p _ ⟨Int.emod_nonneg _ (by omega), Int.emod_lt_of_pos _ hr⟩
theorem sumI_snoc (g : Int → Int) (z : Int) : ∀ l : List Int, sumI g (l ++ [z]) = sumI g l + g z
  | [] => by simp [sumI]
  | w :: l => by simp only [List.cons_append, sumI, sumI_snoc g z l]; omega
theorem free_ok {r : Int} (h : Inv r) (hr : 1000 < r) {ids l : List Int} (hok : ∀ z ∈ ids, 1 ≤ z ∧ z ≤ 20) (hn : ids.Nodup) (hl : ids.length = l.length) (hlt : ∀ z ∈ l, 0 ≤ z ∧ z < r) {s : Int} (hs : 0 ≤ s ∧ s < r) (last : Int)
    (hlast : last = leftF r s ((lagV r (ids ++ [21]) 0).zip l) * invM r (lagAt r (ids ++ [21]) 0 21) % r) :
    (∃ y, 0 ≤ y ∧ y < r ∧ lagAt r (ids ++ [21]) 0 21 * y % r = 1) ∧ joinV r (ids ++ [21]) (l ++ [last]) 0 = s ∧ ∀ i, i < l.length → joinV r (ids ++ [21]) (l ++ [last]) (ids.getD i 0) = l.getD i 0 := by
  have hni : (21 : Int) ∉ ids := fun hc => by have := hok _ hc; omega
  have hmn : (ids ++ [21]).Nodup := List.nodup_append.2 ⟨hn, by simp, fun a ha b hb e => by rw [List.mem_singleton.1 hb] at e; subst e; exact hni ha⟩
  have hmo : idsOk (ids ++ [21]) := fun z hz => by
    rcases List.mem_append.1 hz with hz | hz
    · have := hok z hz; omega
    · rw [List.mem_singleton.1 hz]; omega
  have h21 : (21 : Int) ∈ ids ++ [21] := by simp
  have hN := lag_nz h hr hmo h21
  have hNlt : 0 ≤ lagAt r (ids ++ [21]) 0 21 ∧ lagAt r (ids ++ [21]) 0 21 < r := ⟨Int.emod_nonneg _ (by omega), Int.emod_lt_of_pos _ (by omega)⟩
  have hinv := inv_of h hNlt hN
  obtain ⟨y, hy⟩ := map_exists (ids ++ [21]) (l ++ [last]) hmn (by simp [hl])
  have hy2 : ids.map y = l ∧ y 21 = last := by
    rw [List.map_append] at hy
    have := List.append_inj hy (by simp [hl])
    exact ⟨this.1, by simpa using this.2⟩
  refine ⟨?_, ?_, fun i hi => ?_⟩
  · obtain ⟨w, hw, hw1⟩ := h.2 (lagAt r (ids ++ [21]) 0 21) (by have : lagAt r (ids ++ [21]) 0 21 ≠ 0 := fun e => hN (eqm.of_eq e); omega) hNlt.2
    exact ⟨w, hw.1, hw.2, hw1⟩
  · have h1 := join_sum r (ids ++ [21]) y 0
    rw [hy] at h1
    rw [sumI_snoc, hy2.2] at h1
    have hz : (lagV r (ids ++ [21]) 0).zip l = ids.map fun i => (lagAt r (ids ++ [21]) 0 i, y i) := by
      rw [← hy2.1]
      unfold lagV
      rw [List.map_append]
      refine Eq.trans ?_ (List.zip_map' (f := lagAt r (ids ++ [21]) 0) (g := y) (l := ids))
      have : ∀ (a b c : List Int), a.length = b.length → (a ++ c).zip b = a.zip b := fun a => by
        induction a with
        | nil => intro b c h; cases b with | nil => simp | cons _ _ => cases h
        | cons w a ih => intro b c h; cases b with | nil => cases h | cons v b => simp only [List.cons_append, List.zip_cons_cons]; rw [ih b c (by simpa using h)]
      exact this _ _ _ (by simp)
    rw [hz] at hlast
    have h2 := leftF_sum r (lagAt r (ids ++ [21]) 0) y ids s
    have h3 : eqm r (lagAt r (ids ++ [21]) 0 21 * last) (s - sumI (fun i => lagAt r (ids ++ [21]) 0 i * y i) ids) := by
      refine eqm.trans ?_ h2
      rw [hlast]
      generalize leftF r s _ = q at *
      generalize lagAt r (ids ++ [21]) 0 21 = N at *
      have h4 : eqm r (N * invM r N) 1 := eqm_of_emod (by rw [hinv, Int.emod_eq_of_lt (by omega) h.1])
      refine ((eqm.refl r N).mul (eqm.md r _)).trans ?_
      have h5 := (eqm.refl r q).mul h4
      rw [Int.mul_one] at h5
      exact (eqm.of_eq (by grind)).trans h5
    have h4 : eqm r (joinV r (ids ++ [21]) (l ++ [last]) 0) s := by
      refine h1.trans (((eqm.refl r _).add h3).trans (eqm.of_eq ?_))
      omega
    have h5 := h4.emod
    have h6 := dotV_lt (show 0 < r by omega) ((lagV r (ids ++ [21]) 0).zip (l ++ [last]))
    rw [Int.emod_eq_of_lt hs.1 hs.2, Int.emod_eq_of_lt (show 0 ≤ joinV r (ids ++ [21]) (l ++ [last]) 0 from h6.1) h6.2] at h5
    exact h5
  · have hi' : i < ids.length := by omega
    have hm : ids.getD i 0 ∈ ids ++ [21] := List.mem_append_left _ (by rw [List.getD_eq_getElem?_getD, List.getElem?_eq_getElem hi']; exact List.getElem_mem hi')
    have h1 := join_node h hr hmo hmn y hm
    rw [hy] at h1
    rw [h1]
    have h2 : y (ids.getD i 0) = l.getD i 0 := by
      rw [← hy2.1, List.getD_eq_getElem?_getD, List.getD_eq_getElem?_getD, List.getElem?_map, List.getElem?_eq_getElem hi']; rfl
    rw [h2]
    have h3 := hlt (l.getD i 0) (by rw [List.getD_eq_getElem?_getD, List.getElem?_eq_getElem hi]; exact List.getElem_mem hi)
    exact Int.emod_eq_of_lt h3.1 h3.2
end Go.Sx
