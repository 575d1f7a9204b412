/- Laws: ShareKnown (draft, not built yet). -/
import Derived.Test.YtlddchekkjjleaaGreatHi
import Derived.Test.YtlddchekkjjleaaGreatGd
set_option linter.unusedVariables false
set_option linter.unusedSimpArgs false
namespace Go.Sx
open Go Go.RowKit
set_option maxRecDepth 100000
set_option linter.unusedVariables false
set_option linter.unusedSimpArgs false
noncomputable def kJKN (f : FuncId) : K := { fn := f, ext := false, ins := [.one (.cst .nilslice), .one (.cst .nilslice), iI], outs := [.agg [.int .i64, .num, .num, .bool, .int .u64, .int .u64, .bool], oI], pre := fun | [x] => 0 ≤ x ∧ x ≤ 1000 | _ => False, sem := fun _ => [0, 0, 0, 0, 0, 0, 0, 2] }
def tJKN : Tree := (.req 0 [(.lit 0), (.lit 0), (.var 0)]
(.lett 1 (.int .i64) (.app 0 0 [(.lit 0), (.lit 0), (.var 0)])
(.lett 2 .bit (.cmp .neq (.var 1) (.lit 0))
(.split 2
 (.ret [(.lit 0), (.lit 0), (.lit 0), (.lit 0), (.lit 0), (.lit 0), (.lit 0), (.var 1)])
 (.ret [(.lit 0), (.lit 0), (.lit 0), (.lit 0), (.lit 0), (.lit 0), (.lit 0), (.lit 2)])))))
theorem nz0_ : True := trivial
theorem law_jkn (f1 f : FuncId) (e : Nat → Int) (hp : (kJKN f).pre [e 0]) : tJKN.says [kPlaces f1] ⟨fun ys => ys = (kJKN f).sem [e 0], []⟩ e := by
  obtain ⟨p0, p1⟩ : 0 ≤ e 0 ∧ e 0 ≤ 1000 := hp
  show tJKN.says _ ⟨fun ys => ys = [0, 0, 0, 0, 0, 0, 0, 2], []⟩ e
  refine ⟨(show (dec 0).length ≤ 64 by rw [dec_zero]; decide), ?_⟩
  intro a1 k1
  have s1 : e 1 = ((kPlaces f1).sem [0, 0, e 0]).getD 0 0 := a1
  clear a1 k1
  have v1 : e 1 = 0 := by
    rw [s1]
    show errPl (dec 0) 0 (e 0) = 0
    rw [dec_zero]
    unfold errPl
    rw [if_neg (by rintro (h | h | h | h); omega; omega; exact h rfl; exact h (fun z hz => by cases hz)), if_neg (fun h => h List.nodup_nil)]
  clear s1
  intro a2 k2
  have b2 := c_ne a2
  simp only [ev_var, ev_lit, ev_limb] at b2
  clear a2 k2
  refine ⟨fun h => ?_, fun h => ?_⟩
  · have c2 := yes_ h b2
    clear h
    show [0, 0, 0, 0, 0, 0, 0, e 1] = _
    exact absurd v1 c2
  · have c2 := no_ h b2
    clear h
    show [0, 0, 0, 0, 0, 0, 0, 2] = _
    rfl
end Go.Sx

/- Laws: ShareKnown. -/
namespace Go.Sx
open Go Go.RowKit
set_option maxRecDepth 100000
set_option linter.unusedVariables false
set_option linter.unusedSimpArgs false
theorem tbl_cons {T : List K} {r : Sem1} {l : List Sem1} {κ : K} (h : T[r.g]? = some κ) (h1 : κ.pre (r.args.map W.toI)) (h2 : κ.sem (r.args.map W.toI) = r.outs.map W.toI) (h3 : TblOk T l) : TblOk T (r :: l) :=
  ⟨by rw [h]; exact ⟨h1, h2⟩, h3⟩
noncomputable def kKnown19 (f : FuncId) : K := { fn := f, ext := false, ins := [], outs := [oB], pre := fun _ => True, sem := fun _ => [1] }
theorem kn_isS : isS 1 := ⟨by omega, by omega⟩
theorem kn_join (c : List Int) {ids l : List Int} (hok : idsOk ids) (hn : ids.Nodup) (hc : c.length ≤ ids.length) (hl : ids.map (fun i => polyV c i % rOf 1) = l) (x : Int) : joinV (rOf 1) ids l x = polyV c x % rOf 1 := by
  rw [← hl]; exact interp (inv_all kn_isS) (rOf_big kn_isS) hok hn c hc x
theorem kn_small (te : TypeId) (f : FuncId) (l : List Int) : (kSmall19 te f).sem [enc l] = [enc l] := by
  show [enc (dec (enc l))] = _
  rw [dec_enc]
theorem kn_smallp (te : TypeId) (f : FuncId) {l : List Int} (h : l.length ≤ 1000) : (kSmall19 te f).pre [enc l] := by
  show (dec (enc l)).length ≤ 1000
  rw [dec_enc]; exact h
theorem kn_split : semSplit [1, enc [5, 3], 3] = [enc [8, 11, 14], 0] := by
  simp only [semSplit]
  rw [dec_enc, if_pos (by decide)]
  rw [show sharesV (rOf 1) [5, 3] (3 : Int).toNat = [8, 11, 14] by decide]
theorem kn_lagr : semSLagr [1, enc [1, 2], 0] = [enc [2, 65520], 0] := by
  simp only [semSLagr]
  rw [dec_enc, if_pos (by decide)]
  have h : lagV (rOf 1) [1, 2] 0 = [2, 65520] := by
    show [upV 65521 [1, 2] 1 0 * invM 65521 (upV 65521 [1, 2] 1 1) % 65521, upV 65521 [1, 2] 2 0 * invM 65521 (upV 65521 [1, 2] 2 2) % 65521] = _
    rw [show upV 65521 [1, 2] 1 1 = 65520 by decide, show upV 65521 [1, 2] 2 2 = 1 by decide, (invM_eq (n := 65521) (a := 65520) (y := 65520) (by decide) (by decide)).1, (invM_eq (n := 65521) (a := 1) (y := 1) (by decide) (by decide)).1]
    decide
  rw [h]
theorem kn_lagr7 : semSLagr [1, enc [1, 1], 0] = [0, 7] := by
  simp only [semSLagr]
  rw [dec_enc, if_neg (by decide), show errLa 1 [1, 1] 0 = 7 by decide]
theorem kn_lagr2 : semSLagr [1, enc [0, 1], 0] = [0, 2] := by
  simp only [semSLagr]
  rw [dec_enc, if_neg (by decide), show errLa 1 [0, 1] 0 = 2 by decide]
theorem kn_joins : semSJoin [1, enc [1, 3], enc [8, 14], 2] = [11, 0] := by
  rw [semSJoin_ok (dec_enc _) (dec_enc _) (by decide), kn_join [5, 3] (ids := [1, 3]) (l := [8, 14]) (by decide) (by decide) (Nat.le_refl _) (by decide) 2]
  decide
theorem kn_join0 : semSJoin [1, 0, 0, 5] = [0, 0] := by
  rw [semSJoin_ok dec_zero dec_zero (by decide)]; decide
theorem kn_at3 : joinV (rOf 1) [1, 2] [8, 11] 3 = 14 := by
  rw [kn_join [5, 3] (ids := [1, 2]) (l := [8, 11]) (by decide) (by decide) (Nat.le_refl _) (by decide) 3]; decide
theorem kn_fit : semSFit [1, enc [1, 2, 3], enc [8, 11, 14], 1] = [1, 0] :=
  semFit_ok (dec_enc _) (dec_enc _) (by decide) (by omega) fun i h1 h2 => by
    obtain rfl : i = 2 := by
      have h1 : 2 ≤ i := h1
      have h2 : i < 3 := h2
      omega
    exact kn_at3
theorem kn_nofit : semSFit [1, enc [1, 2, 3], enc [8, 11, 15], 1] = [0, 0] := by
  simp only [semSFit]
  rw [dec_enc, dec_enc, if_neg (by decide), if_neg (by omega), fitB_no]
  intro h
  have h2 : joinV (rOf 1) [1, 2] [8, 11] 3 = 15 := h 2 (Nat.le_refl _) (by decide)
  rw [kn_at3] at h2
  exact absurd h2 (by decide)
theorem kn_val : semSVal [1, enc (List.replicate 65 0), 0] = [0, 3] := by
  simp only [semSVal]
  rw [dec_enc, if_neg (by decide), show errCo 1 (List.replicate 65 0) 0 = 3 by decide]
theorem kn_same (f : FuncId) (l : List Int) : (kSameN f).sem [enc l, enc l] = [1] := by
  show [bi (dec (enc l) = dec (enc l))] = [1]
  unfold bi
  rw [if_pos rfl]
def tKnown19 : Tree := (.lett 0 (.lst (.int .u64)) (.lapp (.lit 0) [(.lit 5), (.lit 3)])
(.req 0 [(.var 0)]
(.lett 1 (.lst .num) (.app 0 0 [(.var 0)])
(.req 1 [(.lit 1), (.var 1), (.lit 3)]
(.lett 2 (.lst .num) (.app 1 0 [(.lit 1), (.var 1), (.lit 3)])
(.lett 3 (.int .i64) (.app 1 1 [(.lit 1), (.var 1), (.lit 3)])
(.lett 4 (.lst (.int .i64)) (.lapp (.lit 0) [(.lit 1), (.lit 2)])
(.req 2 [(.lit 1), (.var 4), (.lit 0)]
(.lett 5 (.lst .num) (.app 2 0 [(.lit 1), (.var 4), (.lit 0)])
(.lett 6 (.int .i64) (.app 2 1 [(.lit 1), (.var 4), (.lit 0)])
(.lett 7 (.lst (.int .u64)) (.lapp (.lit 0) [(.lit 8), (.lit 14)])
(.req 0 [(.var 7)]
(.lett 8 (.lst .num) (.app 0 0 [(.var 7)])
(.lett 9 (.lst (.int .i64)) (.lapp (.lit 0) [(.lit 1), (.lit 3)])
(.req 3 [(.lit 1), (.var 9), (.var 8), (.lit 2)]
(.lett 10 .num (.app 3 0 [(.lit 1), (.var 9), (.var 8), (.lit 2)])
(.lett 11 (.int .i64) (.app 3 1 [(.lit 1), (.var 9), (.var 8), (.lit 2)])
(.lett 12 (.lst (.int .u64)) (.lapp (.lit 0) [(.lit 8), (.lit 11), (.lit 14)])
(.req 0 [(.var 12)]
(.lett 13 (.lst .num) (.app 0 0 [(.var 12)])
(.lett 14 (.lst (.int .i64)) (.lapp (.lit 0) [(.lit 1), (.lit 2), (.lit 3)])
(.req 4 [(.lit 1), (.var 14), (.var 13), (.lit 1)]
(.lett 15 .bit (.app 4 0 [(.lit 1), (.var 14), (.var 13), (.lit 1)])
(.lett 16 (.int .i64) (.app 4 1 [(.lit 1), (.var 14), (.var 13), (.lit 1)])
(.lett 17 (.lst (.int .u64)) (.lapp (.lit 0) [(.lit 8), (.lit 11), (.lit 15)])
(.req 0 [(.var 17)]
(.lett 18 (.lst .num) (.app 0 0 [(.var 17)])
(.lett 19 (.lst (.int .i64)) (.lapp (.lit 0) [(.lit 1), (.lit 2), (.lit 3)])
(.req 4 [(.lit 1), (.var 19), (.var 18), (.lit 1)]
(.lett 20 .bit (.app 4 0 [(.lit 1), (.var 19), (.var 18), (.lit 1)])
(.lett 21 (.int .i64) (.app 4 1 [(.lit 1), (.var 19), (.var 18), (.lit 1)])
(.lett 22 (.lst (.int .i64)) (.lapp (.lit 0) [(.lit 1), (.lit 1)])
(.req 2 [(.lit 1), (.var 22), (.lit 0)]
(.lett 23 (.lst .num) (.app 2 0 [(.lit 1), (.var 22), (.lit 0)])
(.lett 24 (.int .i64) (.app 2 1 [(.lit 1), (.var 22), (.lit 0)])
(.lett 25 (.lst (.int .i64)) (.lapp (.lit 0) [(.lit 0), (.lit 1)])
(.req 2 [(.lit 1), (.var 25), (.lit 0)]
(.lett 26 (.lst .num) (.app 2 0 [(.lit 1), (.var 25), (.lit 0)])
(.lett 27 (.int .i64) (.app 2 1 [(.lit 1), (.var 25), (.lit 0)])
(.req 5 [(.lit 0)]
(.lett 28 (.int .i64) (.app 5 0 [(.lit 0)])
(.lett 29 .num (.app 5 1 [(.lit 0)])
(.lett 30 .num (.app 5 2 [(.lit 0)])
(.lett 31 .bit (.app 5 3 [(.lit 0)])
(.lett 32 (.int .u64) (.app 5 4 [(.lit 0)])
(.lett 33 (.int .u64) (.app 5 5 [(.lit 0)])
(.lett 34 .bit (.app 5 6 [(.lit 0)])
(.lett 35 (.int .i64) (.app 5 7 [(.lit 0)])
(.lett 36 .bit (.cmp .leq (.lit 0) (.lit 65))
(.lett 37 .bit (.cmp .lss (.lit 65) (.lit 4294967296))
(.nz (.var 36)
(.nz (.var 37)
(.lett 38 (.lst .num) (.lrep (.lit 65) (.lit 0))
(.req 6 [(.lit 1), (.var 38), (.lit 0)]
(.lett 39 .num (.app 6 0 [(.lit 1), (.var 38), (.lit 0)])
(.lett 40 (.int .i64) (.app 6 1 [(.lit 1), (.var 38), (.lit 0)])
(.req 3 [(.lit 1), (.lit 0), (.lit 0), (.lit 5)]
(.lett 41 .num (.app 3 0 [(.lit 1), (.lit 0), (.lit 0), (.lit 5)])
(.lett 42 (.int .i64) (.app 3 1 [(.lit 1), (.lit 0), (.lit 0), (.lit 5)])
(.req 7 []
(.lett 43 .bit (.app 7 0 [])
(.split 43
 (.lett 235 (.lst (.int .u64)) (.lapp (.lit 0) [(.lit 8), (.lit 11), (.lit 14)])
 (.req 0 [(.var 235)]
 (.lett 236 (.lst .num) (.app 0 0 [(.var 235)])
 (.req 8 [(.var 2), (.var 236)]
 (.lett 283 .bit (.app 8 0 [(.var 2), (.var 236)])
 (.split 283
  (.lett 475 .bit (.cmp .eql (.var 3) (.lit 0))
  (.split 475
   (.lett 715 (.lst (.int .u64)) (.lapp (.lit 0) [(.lit 2), (.lit 65520)])
   (.req 0 [(.var 715)]
   (.lett 716 (.lst .num) (.app 0 0 [(.var 715)])
   (.req 8 [(.var 5), (.var 716)]
   (.lett 763 .bit (.app 8 0 [(.var 5), (.var 716)])
   (.split 763
    (.lett 955 .bit (.cmp .eql (.var 6) (.lit 0))
    (.split 955
     (.req 9 [(.lit 11)]
     (.lett 1147 .num (.app 9 0 [(.lit 11)])
     (.lett 1195 .bit (.eqs [((.limb 10 0), (.limb 1147 0)), ((.limb 10 1), (.limb 1147 1)), ((.limb 10 2), (.limb 1147 2)), ((.limb 10 3), (.limb 1147 3)), ((.limb 10 4), (.limb 1147 4)), ((.limb 10 5), (.limb 1147 5))])
     (.split 1195
      (.lett 1387 .bit (.cmp .eql (.var 11) (.lit 0))
      (.split 1387
       (.split 15
        (.lett 1723 .bit (.cmp .eql (.var 16) (.lit 0))
        (.split 1723
         (.lett 1915 .bit (.not (.var 20))
         (.split 1915
          (.lett 2107 .bit (.cmp .eql (.var 21) (.lit 0))
          (.split 2107
           (.lett 2299 .bit (.cmp .eql (.var 24) (.lit 7))
           (.split 2299
            (.lett 2491 .bit (.cmp .eql (.var 27) (.lit 2))
            (.split 2491
             (.lett 2683 .bit (.cmp .eql (.var 35) (.lit 2))
             (.split 2683
              (.lett 2875 .bit (.cmp .eql (.var 40) (.lit 3))
              (.split 2875
               (.lett 3115 .bit (.eqs [((.limb 41 0), (.lit 0)), ((.limb 41 1), (.lit 0)), ((.limb 41 2), (.lit 0)), ((.limb 41 3), (.lit 0)), ((.limb 41 4), (.lit 0)), ((.limb 41 5), (.lit 0))])
               (.split 3115
                (.lett 3307 .bit (.cmp .eql (.var 42) (.lit 0))
                (.split 3307
                 (.req 10 [(.lit 13)]
                 (.lett 3451 (.int .i64) (.app 10 0 [(.lit 13)])
                 (.lett 3499 .bit (.cmp .eql (.var 3451) (.lit 4))
                 (.split 3499
                  (.req 10 [(.lit 0)]
                  (.lett 3643 (.int .i64) (.app 10 0 [(.lit 0)])
                  (.lett 3691 .bit (.cmp .eql (.var 3643) (.lit 0))
                  (.ret [(.var 3691)]))))
                  (.ret [(.lit 0)])))))
                 (.ret [(.lit 0)])))
                (.ret [(.lit 0)])))
               (.ret [(.lit 0)])))
              (.ret [(.lit 0)])))
             (.ret [(.lit 0)])))
            (.ret [(.lit 0)])))
           (.ret [(.lit 0)])))
          (.ret [(.lit 0)])))
         (.ret [(.lit 0)])))
        (.ret [(.lit 0)]))
       (.ret [(.lit 0)])))
      (.ret [(.lit 0)])))))
     (.ret [(.lit 0)])))
    (.ret [(.lit 0)])))))))
   (.ret [(.lit 0)])))
  (.ret [(.lit 0)])))))))
 (.ret [(.lit 0)])))))))))))))))))))))))))))))))))))))))))))))))))))))))))))))))
def tblKnown19 : List Sem1 := [
  ⟨0, [.wl [5, 3]], [.wl [5, 3]]⟩, ⟨0, [.wl [8, 14]], [.wl [8, 14]]⟩, ⟨0, [.wl [8, 11, 14]], [.wl [8, 11, 14]]⟩, ⟨0, [.wl [8, 11, 15]], [.wl [8, 11, 15]]⟩, ⟨0, [.wl [2, 65520]], [.wl [2, 65520]]⟩,
  ⟨1, [.wi 1, .wl [5, 3], .wi 3], [.wl [8, 11, 14], .wi 0]⟩,
  ⟨2, [.wi 1, .wl [1, 2], .wi 0], [.wl [2, 65520], .wi 0]⟩, ⟨2, [.wi 1, .wl [1, 1], .wi 0], [.wi 0, .wi 7]⟩, ⟨2, [.wi 1, .wl [0, 1], .wi 0], [.wi 0, .wi 2]⟩,
  ⟨3, [.wi 1, .wl [1, 3], .wl [8, 14], .wi 2], [.wi 11, .wi 0]⟩, ⟨3, [.wi 1, .wi 0, .wi 0, .wi 5], [.wi 0, .wi 0]⟩,
  ⟨4, [.wi 1, .wl [1, 2, 3], .wl [8, 11, 14], .wi 1], [.wi 1, .wi 0]⟩, ⟨4, [.wi 1, .wl [1, 2, 3], .wl [8, 11, 15], .wi 1], [.wi 0, .wi 0]⟩,
  ⟨5, [.wi 0], [.wi 0, .wi 0, .wi 0, .wi 0, .wi 0, .wi 0, .wi 0, .wi 2]⟩,
  ⟨6, [.wi 1, .wl (List.replicate 65 0), .wi 0], [.wi 0, .wi 3]⟩,
  ⟨7, [], [.wi 1]⟩,
  ⟨8, [.wl [8, 11, 14], .wl [8, 11, 14]], [.wi 1]⟩, ⟨8, [.wl [2, 65520], .wl [2, 65520]], [.wi 1]⟩,
  ⟨9, [.wi 11], [.wi 11]⟩,
  ⟨10, [.wi 13], [.wi 4]⟩, ⟨10, [.wi 0], [.wi 0]⟩]
theorem known19_clo : tKnown19.clo tblKnown19 isOne [] = true := by kernel_rfl
theorem known19_tbl (te : TypeId) (f0 f1 f2 f3 f4 f5 f6 f7 f8 f9 f10 : FuncId) : TblOk [kSmall19 te f0, kSplit te f1, kSLagr te f2, kSJoin f3, kSFit f4, kJKN f5, kSVal f6, kAwake19 f7, kSameN f8, kOf f9, kFaults f10] tblKnown19 :=
  tbl_cons (κ := kSmall19 te f0) rfl (kn_smallp te f0 (by decide)) (kn_small te f0 _) <|
  tbl_cons (κ := kSmall19 te f0) rfl (kn_smallp te f0 (by decide)) (kn_small te f0 _) <|
  tbl_cons (κ := kSmall19 te f0) rfl (kn_smallp te f0 (by decide)) (kn_small te f0 _) <|
  tbl_cons (κ := kSmall19 te f0) rfl (kn_smallp te f0 (by decide)) (kn_small te f0 _) <|
  tbl_cons (κ := kSmall19 te f0) rfl (kn_smallp te f0 (by decide)) (kn_small te f0 _) <|
  tbl_cons (κ := kSplit te f1) rfl trivial kn_split <|
  tbl_cons (κ := kSLagr te f2) rfl trivial kn_lagr <|
  tbl_cons (κ := kSLagr te f2) rfl trivial kn_lagr7 <|
  tbl_cons (κ := kSLagr te f2) rfl trivial kn_lagr2 <|
  tbl_cons (κ := kSJoin f3) rfl trivial kn_joins <|
  tbl_cons (κ := kSJoin f3) rfl trivial kn_join0 <|
  tbl_cons (κ := kSFit f4) rfl trivial kn_fit <|
  tbl_cons (κ := kSFit f4) rfl trivial kn_nofit <|
  tbl_cons (κ := kJKN f5) rfl (show (0 : Int) ≤ 0 ∧ (0 : Int) ≤ 1000 by decide) rfl <|
  tbl_cons (κ := kSVal f6) rfl trivial kn_val <|
  tbl_cons (κ := kAwake19 f7) rfl trivial rfl <|
  tbl_cons (κ := kSameN f8) rfl trivial (kn_same f8 _) <|
  tbl_cons (κ := kSameN f8) rfl trivial (kn_same f8 _) <|
  tbl_cons (κ := kOf f9) rfl trivial rfl <|
  tbl_cons (κ := kFaults f10) rfl trivial rfl <|
  tbl_cons (κ := kFaults f10) rfl trivial rfl trivial
theorem law_known19 (te : TypeId) (f0 f1 f2 f3 f4 f5 f6 f7 f8 f9 f10 f : FuncId) (e : Nat → Int) : tKnown19.says [kSmall19 te f0, kSplit te f1, kSLagr te f2, kSJoin f3, kSFit f4, kJKN f5, kSVal f6, kAwake19 f7, kSameN f8, kOf f9, kFaults f10] ⟨fun ys => ys = (kKnown19 f).sem [], []⟩ e :=
  clo_says (known19_tbl te f0 f1 f2 f3 f4 f5 f6 f7 f8 f9 f10) (fun ws h => isOne_ok h) tKnown19 [] known19_clo fun p hp => absurd hp (List.not_mem_nil)
end Go.Sx
