/- Laws: ShareFree. -/
import Derived.Test.YtlddchekkjjleaaGreatHh
import Derived.Test.YtlddchekkjjleaaGreatHg
set_option linter.unusedVariables false
set_option linter.unusedSimpArgs false
namespace Go.Sx
open Go Go.RowKit
set_option maxRecDepth 100000
set_option linter.unusedVariables false
set_option linter.unusedSimpArgs false
noncomputable def kFree (f : FuncId) : K := { fn := f, ext := false, ins := [iI, iL, iN, iLi], outs := [oB], pre := fun _ => True, sem := fun _ => [1] }
theorem nz_ {v : Int} {p q : Prop} (b : (v = 1 ∧ p) ∨ (v = 0 ∧ q)) (hq : ¬ q) : v ≠ 0 := by
  rcases b with ⟨h, _⟩ | ⟨_, h⟩
  · omega
  · exact absurd h hq
theorem loop_up {i j c : Int} {L : Nat} (h0 : 0 ≤ i) (h1 : i < c) (h2 : c = L) (h3 : j = i + 1) : (0 ≤ j ∧ j ≤ L) ∧ ((L : Int) - j).toNat < ((L : Int) - i).toNat := by omega
theorem sem2_ok {op : Int → Int → Int} {s a b : Int} (hs : isS s) (ha : a < rOf s) (hb : b < rOf s) : sem2 op [s, a, b] = [op a b % rOf s, 0] := by
  simp only [sem2]
  rw [if_pos ⟨hs, ha, hb⟩]
theorem semFit_ok {s : Int} {ids l : List Int} {x y d : Int} (hx : dec x = ids) (hy : dec y = l) (h : errSh s ids l 0 = 0) (hd : 0 ≤ d ∧ d ≤ 1000) (hf : fitV (rOf s) ids l (d + 1).toNat) : semSFit [s, x, y, d] = [1, 0] := by
  simp only [semSFit]
  rw [hx, hy, if_neg (by omega), if_neg (by omega), fitB_yes hf]
theorem leftF_take {r s : Int} {p : List (Int × Int)} {i : Nat} (h : i < p.length) : leftF r s (p.take (i + 1)) = (leftF r s (p.take i) - (p[i]).1 * (p[i]).2 % r) % r := by
  rw [List.take_succ_eq_append_getElem h]
  unfold leftF
  rw [List.foldl_append]; rfl
theorem getD_app_lt {l k : List Int} {i : Nat} (h : i < l.length) : (l ++ k).getD i 0 = l.getD i 0 := by
  rw [List.getD_eq_getElem?_getD, List.getD_eq_getElem?_getD, List.getElem?_append_left h]
theorem getD_app_end (l : List Int) (z : Int) {i : Nat} (h : i = l.length) : (l ++ [z]).getD i 0 = z := by
  subst h
  rw [List.getD_eq_getElem?_getD, List.getElem?_append_right (Nat.le_refl _)]; simp
theorem getD_of_lt {l : List Int} {i : Nat} (h : i < l.length) : l.getD i 0 = l[i] := by
  rw [List.getD_eq_getElem?_getD, List.getElem?_eq_getElem h]; rfl
def tFree : Tree := (.req 0 []
(.lett 4 .bit (.app 0 0 [])
(.lett 5 .bit (.cmp .lss (.var 0) (.lit 0))
(.split 5
 (.ret [(.var 4)])
 (.lett 6 .bit (.cmp .gtr (.var 0) (.lit 2))
 (.split 6
  (.ret [(.var 4)])
  (.lett 7 (.int .i64) (.llen (.var 1))
  (.lett 8 .bit (.cmp .gtr (.var 7) (.lit 9))
  (.split 8
   (.ret [(.var 4)])
   (.lett 153 (.int .i64) (.llen (.lit 0))
   (.lett 154 .bit (.cmp .lss (.var 153) (.lit 2147483648))
   (.lett 155 (.int .i64) (.llen (.var 1))
   (.lett 156 .bit (.cmp .lss (.var 155) (.lit 2147483648))
   (.nz (.var 154)
   (.nz (.var 156)
   (.lett 157 (.lst .num) (.lcat (.lit 0) (.var 1))
   (.lett 297 (.lst .num) (.lapp (.lit 0) [(.var 2)])
   (.lett 298 (.int .i64) (.llen (.var 157))
   (.lett 299 .bit (.cmp .lss (.var 298) (.lit 2147483648))
   (.lett 300 (.int .i64) (.llen (.var 297))
   (.lett 301 .bit (.cmp .lss (.var 300) (.lit 2147483648))
   (.nz (.var 299)
   (.nz (.var 301)
   (.lett 302 (.lst .num) (.lcat (.var 157) (.var 297))
   (.req 1 [(.var 0), (.var 302)]
   (.lett 345 (.lst .num) (.app 1 0 [(.var 0), (.var 302)])
   (.lett 441 (.int .i64) (.llen (.var 1))
   (.req 2 [(.var 441), (.lit 20), (.var 3)]
   (.lett 442 (.lst (.int .i64)) (.app 2 0 [(.var 441), (.lit 20), (.var 3)])
   (.lett 443 (.int .i64) (.llen (.lit 0))
   (.lett 444 .bit (.cmp .lss (.var 443) (.lit 2147483648))
   (.lett 445 (.int .i64) (.llen (.var 442))
   (.lett 446 .bit (.cmp .lss (.var 445) (.lit 2147483648))
   (.nz (.var 444)
   (.nz (.var 446)
   (.lett 447 (.lst (.int .i64)) (.lcat (.lit 0) (.var 442))
   (.lett 448 (.int .i64) (.llen (.var 447))
   (.lett 449 .bit (.cmp .lss (.var 448) (.lit 4294967296))
   (.nz (.var 449)
   (.lett 450 (.lst (.int .i64)) (.lapp (.var 447) [(.lit 21)])
   (.req 3 [(.var 0), (.var 450), (.lit 0)]
   (.lett 451 (.lst .num) (.app 3 0 [(.var 0), (.var 450), (.lit 0)])
   (.lett 452 (.int .i64) (.app 3 1 [(.var 0), (.var 450), (.lit 0)])
   (.lett 453 .bit (.cmp .neq (.var 452) (.lit 0))
   (.split 453
    (.ret [(.lit 0)])
    (.lett 454 (.int .i64) (.llen (.var 451))
    (.lett 455 (.int .i64) (.llen (.var 450))
    (.lett 456 .bit (.cmp .neq (.var 454) (.var 455))
    (.split 456
     (.ret [(.lit 0)])
     (.lett 457 (.int .i64) (.llen (.var 1))
     (.lett 458 (.int .i64) (.llen (.var 345))
     (.lett 459 .bit (.cmp .leq (.lit 0) (.var 457))
     (.lett 460 .bit (.cmp .lss (.var 457) (.var 458))
     (.nz (.var 459)
     (.nz (.var 460)
     (.lett 461 .num (.lget (.var 345) (.var 457))
     (.loop [(.lit 0), (.var 461)] [(.int .i64), .num] 462
     (.lett 464 (.int .i64) (.llen (.var 1))
     (.lett 465 .bit (.cmp .lss (.var 462) (.var 464))
     (.split 465
      (.lett 610 (.int .i64) (.llen (.var 451))
      (.lett 611 .bit (.cmp .leq (.lit 0) (.var 462))
      (.lett 612 .bit (.cmp .lss (.var 462) (.var 610))
      (.nz (.var 611)
      (.nz (.var 612)
      (.lett 658 .num (.lget (.var 451) (.var 462))
      (.lett 802 (.int .i64) (.llen (.var 345))
      (.lett 803 .bit (.cmp .leq (.lit 0) (.var 462))
      (.lett 804 .bit (.cmp .lss (.var 462) (.var 802))
      (.nz (.var 803)
      (.nz (.var 804)
      (.lett 850 .num (.lget (.var 345) (.var 462))
      (.req 4 [(.var 0), (.var 658), (.var 850)]
      (.lett 898 .num (.app 4 0 [(.var 0), (.var 658), (.var 850)])
      (.lett 899 (.int .i64) (.app 4 1 [(.var 0), (.var 658), (.var 850)])
      (.req 5 [(.var 0), (.var 463), (.var 898)]
      (.lett 1234 .num (.app 5 0 [(.var 0), (.var 463), (.var 898)])
      (.lett 1235 (.int .i64) (.app 5 1 [(.var 0), (.var 463), (.var 898)])
      (.lett 1236 (.int .i64) (.bin .add .i64 (.var 462) (.lit 1))
      (.back 0 [(.var 1236), (.var 1234)]))))))))))))))))))))
      (.lett 466 (.int .i64) (.llen (.var 1))
      (.lett 467 (.int .i64) (.llen (.var 451))
      (.lett 468 .bit (.cmp .leq (.lit 0) (.var 466))
      (.lett 469 .bit (.cmp .lss (.var 466) (.var 467))
      (.nz (.var 468)
      (.nz (.var 469)
      (.lett 470 .num (.lget (.var 451) (.var 466))
      (.req 6 [(.var 0), (.var 470)]
      (.lett 471 .num (.app 6 0 [(.var 0), (.var 470)])
      (.lett 472 (.int .i64) (.app 6 1 [(.var 0), (.var 470)])
      (.req 4 [(.var 0), (.var 463), (.var 471)]
      (.lett 473 .num (.app 4 0 [(.var 0), (.var 463), (.var 471)])
      (.lett 474 (.int .i64) (.app 4 1 [(.var 0), (.var 463), (.var 471)])
      (.lett 619 (.int .i64) (.llen (.var 1))
      (.lett 667 (.int .i64) (.llen (.var 345))
      (.lett 668 .bit (.cmp .leq (.lit 0) (.lit 0))
      (.lett 669 .bit (.cmp .leq (.lit 0) (.var 619))
      (.lett 670 .bit (.cmp .leq (.var 619) (.var 667))
      (.nz (.var 668)
      (.nz (.var 669)
      (.nz (.var 670)
      (.lett 715 (.lst .num) (.lsub (.var 345) (.lit 0) (.var 619))
      (.lett 716 (.int .i64) (.llen (.lit 0))
      (.lett 717 .bit (.cmp .lss (.var 716) (.lit 2147483648))
      (.lett 718 (.int .i64) (.llen (.var 715))
      (.lett 719 .bit (.cmp .lss (.var 718) (.lit 2147483648))
      (.nz (.var 717)
      (.nz (.var 719)
      (.lett 720 (.lst .num) (.lcat (.lit 0) (.var 715))
      (.lett 859 (.lst .num) (.lapp (.lit 0) [(.var 473)])
      (.lett 860 (.int .i64) (.llen (.var 720))
      (.lett 861 .bit (.cmp .lss (.var 860) (.lit 2147483648))
      (.lett 862 (.int .i64) (.llen (.var 859))
      (.lett 863 .bit (.cmp .lss (.var 862) (.lit 2147483648))
      (.nz (.var 861)
      (.nz (.var 863)
      (.lett 864 (.lst .num) (.lcat (.var 720) (.var 859))
      (.req 7 [(.var 0), (.var 450), (.var 864), (.lit 0)]
      (.lett 955 .num (.app 7 0 [(.var 0), (.var 450), (.var 864), (.lit 0)])
      (.lett 956 (.int .i64) (.app 7 1 [(.var 0), (.var 450), (.var 864), (.lit 0)])
      (.lett 957 (.int .i64) (.llen (.var 1))
      (.req 8 [(.var 0), (.var 450), (.var 864), (.var 957)]
      (.lett 958 .bit (.app 8 0 [(.var 0), (.var 450), (.var 864), (.var 957)])
      (.lett 959 (.int .i64) (.app 8 1 [(.var 0), (.var 450), (.var 864), (.var 957)])
      (.loop [(.lit 0)] [(.int .i64)] 960
      (.lett 961 (.int .i64) (.llen (.var 1))
      (.lett 962 .bit (.cmp .lss (.var 960) (.var 961))
      (.split 962
       (.lett 963 (.int .i64) (.llen (.var 442))
       (.lett 964 .bit (.cmp .leq (.lit 0) (.var 960))
       (.lett 965 .bit (.cmp .lss (.var 960) (.var 963))
       (.nz (.var 964)
       (.nz (.var 965)
       (.lett 966 (.int .i64) (.lget (.var 442) (.var 960))
       (.req 7 [(.var 0), (.var 450), (.var 864), (.var 966)]
       (.lett 967 .num (.app 7 0 [(.var 0), (.var 450), (.var 864), (.var 966)])
       (.lett 968 (.int .i64) (.app 7 1 [(.var 0), (.var 450), (.var 864), (.var 966)])
       (.lett 1017 .bit (.cmp .neq (.var 968) (.lit 0))
       (.split 1017
        (.ret [(.lit 0)])
        (.lett 1257 (.int .i64) (.llen (.var 345))
        (.lett 1258 .bit (.cmp .leq (.lit 0) (.var 960))
        (.lett 1259 .bit (.cmp .lss (.var 960) (.var 1257))
        (.nz (.var 1258)
        (.nz (.var 1259)
        (.lett 1305 .num (.lget (.var 345) (.var 960))
        (.lett 1353 .bit (.eqs [((.limb 967 0), (.limb 1305 0)), ((.limb 967 1), (.limb 1305 1)), ((.limb 967 2), (.limb 1305 2)), ((.limb 967 3), (.limb 1305 3)), ((.limb 967 4), (.limb 1305 4)), ((.limb 967 5), (.limb 1305 5))])
        (.lett 1354 .bit (.not (.var 1353))
        (.split 1354
         (.ret [(.lit 0)])
         (.lett 1449 (.int .i64) (.bin .add .i64 (.var 960) (.lit 1))
         (.back 1 [(.var 1449)]))))))))))))))))))))))
       (.split 4
        (.lett 1107 .bit (.cmp .eql (.var 472) (.lit 0))
        (.split 1107
         (.lett 1299 .bit (.cmp .eql (.var 956) (.lit 0))
         (.split 1299
          (.lett 1491 .bit (.cmp .eql (.var 959) (.lit 0))
          (.split 1491
           (.lett 1779 (.int .i64) (.llen (.var 1))
           (.lett 1827 (.int .i64) (.llen (.var 345))
           (.lett 1828 .bit (.cmp .leq (.lit 0) (.var 1779))
           (.lett 1829 .bit (.cmp .lss (.var 1779) (.var 1827))
           (.nz (.var 1828)
           (.nz (.var 1829)
           (.lett 1875 .num (.lget (.var 345) (.var 1779))
           (.lett 1923 .bit (.eqs [((.limb 955 0), (.limb 1875 0)), ((.limb 955 1), (.limb 1875 1)), ((.limb 955 2), (.limb 1875 2)), ((.limb 955 3), (.limb 1875 3)), ((.limb 955 4), (.limb 1875 4)), ((.limb 955 5), (.limb 1875 5))])
           (.split 1923
            (.ret [(.var 958)])
            (.ret [(.lit 0)]))))))))))
           (.ret [(.lit 0)])))
          (.ret [(.lit 0)])))
         (.ret [(.lit 0)])))
        (.ret [(.lit 0)]))))))))))))))))))))))))))))))))))))))))))))))))))))))))))))))))))))))))))))))))))))))))))))))))))))))))))))))
set_option maxHeartbeats 4000000 in
theorem law_free (te ti : TypeId) (f0 f1 f2 f3 f4 f5 f6 f7 f8 f : FuncId) (e : Nat → Int) (hk : kkHas [.int .i64, .lst .num, .num, .lst (.int .i64)] [e 0, e 1, e 2, e 3]) : tFree.says [kAwake19 f0, kScl te f1, kChosen ti f2, kSLagr te f3, kS2 f4 (· * ·), kS2 f5 (· - ·), kSInv f6, kSJoin f7, kSFit f8] ⟨fun ys => ys = (kFree f).sem [e 0, e 1, e 2, e 3], []⟩ e := by
  show tFree.says _ ⟨fun ys => ys = [1], []⟩ e
  obtain ⟨x, d1⟩ : ∃ x, dec (e 1) = x := ⟨_, rfl⟩
  have h2 : 0 ≤ e 2 := hk.2.2.1.1
  refine ⟨trivial, ?_⟩
  intro a4 k4
  have s4 : e 4 = ((kAwake19 f0).sem []).getD 0 0 := a4
  clear a4 k4
  have v4 : e 4 = 1 := s4
  clear s4
  intro a5 k5
  have b5 := c_lt a5
  simp only [ev_var, ev_lit, ev_limb] at b5
  clear a5 k5
  refine ⟨fun h => ?_, fun h => ?_⟩
  · have c5 := yes_ h b5
    clear h
    show [e 4] = _
    rw [v4]
  · have c5 := no_ h b5
    clear h
    clear b5
    intro a6 k6
    have b6 := c_gt a6
    simp only [ev_var, ev_lit, ev_limb] at b6
    clear a6 k6
    refine ⟨fun h => ?_, fun h => ?_⟩
    · have c6 := yes_ h b6
      clear h
      show [e 4] = _
      rw [v4]
    · have c6 := no_ h b6
      clear h
      have hs : isS (e 0) := ⟨by omega, by omega⟩
      have hr := rOf_big hs
      have hI := inv_all hs
      obtain ⟨r, hR⟩ : ∃ r, r = rOf (e 0) := ⟨_, rfl⟩
      rw [← hR] at hr hI
      clear b6
      intro a7 k7
      have v7 : e 7 = ((dec (e 1)).length : Int) := a7
      rw [d1] at v7
      try simp only [List.length_append, List.length_nil, List.length_cons, List.length_map, List.length_take, List.length_drop, Int.natCast_add, Int.natCast_zero, Int.natCast_one] at v7
      clear a7 k7
      intro a8 k8
      have b8 := c_gt a8
      simp only [ev_var, ev_lit, ev_limb] at b8
      clear a8 k8
      refine ⟨fun h => ?_, fun h => ?_⟩
      · have c8 := yes_ h b8
        clear h
        show [e 4] = _
        rw [v4]
      · have c8 := no_ h b8
        clear h
        clear b8
        intro a153 k153
        have v153 : e 153 = ((dec (0)).length : Int) := a153
        rw [dec_zero] at v153
        try simp only [List.length_append, List.length_nil, List.length_cons, List.length_map, List.length_take, List.length_drop, Int.natCast_add, Int.natCast_zero, Int.natCast_one] at v153
        clear a153 k153
        intro a154 k154
        have b154 := c_lt a154
        simp only [ev_var, ev_lit, ev_limb] at b154
        clear a154 k154
        intro a155 k155
        have v155 : e 155 = ((dec (e 1)).length : Int) := a155
        rw [d1] at v155
        try simp only [List.length_append, List.length_nil, List.length_cons, List.length_map, List.length_take, List.length_drop, Int.natCast_add, Int.natCast_zero, Int.natCast_one] at v155
        clear a155 k155
        intro a156 k156
        have b156 := c_lt a156
        simp only [ev_var, ev_lit, ev_limb] at b156
        clear a156 k156
        refine ⟨nz_ b154 (by omega), ?_⟩
        refine ⟨nz_ b156 (by omega), ?_⟩
        clear v153 b154 v155 b156
        intro a157 k157
        have d157 : dec (e 157) = dec (0) ++ dec (e 1) := (congrArg dec (show e 157 = enc (dec (0) ++ dec (e 1)) from a157)).trans (dec_enc _)
        rw [dec_zero] at d157
        rw [d1] at d157
        try simp only [List.nil_append] at d157
        clear a157 k157
        intro a297 k297
        have d297 : dec (e 297) = dec (0) ++ [e 2] := (congrArg dec (show e 297 = enc (dec (0) ++ [e 2]) from a297)).trans (dec_enc _)
        rw [dec_zero] at d297
        try simp only [List.nil_append] at d297
        clear a297 k297
        intro a298 k298
        have v298 : e 298 = ((dec (e 157)).length : Int) := a298
        rw [d157] at v298
        try simp only [List.length_append, List.length_nil, List.length_cons, List.length_map, List.length_take, List.length_drop, Int.natCast_add, Int.natCast_zero, Int.natCast_one] at v298
        clear a298 k298
        intro a299 k299
        have b299 := c_lt a299
        simp only [ev_var, ev_lit, ev_limb] at b299
        clear a299 k299
        intro a300 k300
        have v300 : e 300 = ((dec (e 297)).length : Int) := a300
        rw [d297] at v300
        try simp only [List.length_append, List.length_nil, List.length_cons, List.length_map, List.length_take, List.length_drop, Int.natCast_add, Int.natCast_zero, Int.natCast_one] at v300
        clear a300 k300
        intro a301 k301
        have b301 := c_lt a301
        simp only [ev_var, ev_lit, ev_limb] at b301
        clear a301 k301
        refine ⟨nz_ b299 (by omega), ?_⟩
        refine ⟨nz_ b301 (by omega), ?_⟩
        clear v298 b299 v300 b301
        intro a302 k302
        have d302 : dec (e 302) = dec (e 157) ++ dec (e 297) := (congrArg dec (show e 302 = enc (dec (e 157) ++ dec (e 297)) from a302)).trans (dec_enc _)
        rw [d157] at d302
        rw [d297] at d302
        try simp only [List.nil_append] at d302
        clear a302 k302
        refine ⟨⟨hs, (show (dec (e 302)).length ≤ 1000 by rw [d302, List.length_append, List.length_singleton]; omega)⟩, ?_⟩
        intro a345 k345
        have s345 : e 345 = ((kScl te f1).sem [e 0, e 302]).getD 0 0 := a345
        clear a345 k345
        obtain ⟨l, hl⟩ : ∃ l, l = x.map (· % r) := ⟨_, rfl⟩
        obtain ⟨sec, hsec⟩ : ∃ sec, sec = e 2 % r := ⟨_, rfl⟩
        have hll : l.length = x.length := by rw [hl, List.length_map]
        have hs1 : 0 ≤ sec ∧ sec < r := by rw [hsec]; exact ⟨Int.emod_nonneg _ (by omega), Int.emod_lt_of_pos _ (by omega)⟩
        have hlt : ∀ z ∈ l, 0 ≤ z ∧ z < r := fun z hz => by
          rw [hl] at hz
          obtain ⟨w, _, rfl⟩ := List.mem_map.1 hz
          exact ⟨Int.emod_nonneg _ (by omega), Int.emod_lt_of_pos _ (by omega)⟩
        have d345 : dec (e 345) = l ++ [sec] := by
          rw [s345]
          show dec (enc ((dec (e 302)).map (· % rOf (e 0)))) = _
          rw [dec_enc, d302, ← hR, List.map_append, ← hl, hsec]; rfl
        clear s345
        intro a441 k441
        have v441 : e 441 = ((dec (e 1)).length : Int) := a441
        rw [d1] at v441
        try simp only [List.length_append, List.length_nil, List.length_cons, List.length_map, List.length_take, List.length_drop, Int.natCast_add, Int.natCast_zero, Int.natCast_one] at v441
        clear a441 k441
        refine ⟨(show 0 ≤ e 441 ∧ e 441 ≤ 20 ∧ (20 : Int) ≤ 1000 by omega), ?_⟩
        intro a442 k442
        have s442 : e 442 = ((kChosen ti f2).sem [e 441, 20, e 3]).getD 0 0 := a442
        clear a442 k442
        obtain ⟨ids, hids⟩ : ∃ ids, ids = (chC (dec (e 3)) 20 x.length).2 := ⟨_, rfl⟩
        have d442 : dec (e 442) = ids := by
          rw [s442]
          show dec (enc (chC (dec (e 3)) (20 : Int).toNat (e 441).toNat).2) = ids
          rw [dec_enc, v441, Int.toNat_natCast, hids]; rfl
        have idl : ids.length = x.length := by rw [hids]; exact (chC_len _ 20 _ (by omega)).2
        have idn : ids.Nodup := by rw [hids]; exact chC_nodup _ (by omega)
        have idm : ∀ z ∈ ids, 1 ≤ z ∧ z ≤ 20 := fun z hz => by have := chC_mem (dec (e 3)) (n := 20) (i := x.length) (by omega) (by rw [← hids]; exact hz); omega
        have hni : (21 : Int) ∉ ids := fun hc => by have := idm _ hc; omega
        have hmn : (ids ++ [21]).Nodup := List.nodup_append.2 ⟨idn, by simp, fun a ha b hb h => by rw [List.mem_singleton.1 hb] at h; subst h; exact hni ha⟩
        have hmo : idsOk (ids ++ [21]) := fun z hz => by
          rcases List.mem_append.1 hz with hz | hz
          · have := idm z hz; omega
          · rw [List.mem_singleton.1 hz]; omega
        obtain ⟨m, hm1⟩ : ∃ m, m = x.length + 1 := ⟨_, rfl⟩
        have hml : (ids ++ [21]).length = m := by rw [List.length_append, List.length_singleton, idl, hm1]
        clear s442
        intro a443 k443
        have v443 : e 443 = ((dec (0)).length : Int) := a443
        rw [dec_zero] at v443
        try simp only [List.length_append, List.length_nil, List.length_cons, List.length_map, List.length_take, List.length_drop, Int.natCast_add, Int.natCast_zero, Int.natCast_one] at v443
        clear a443 k443
        intro a444 k444
        have b444 := c_lt a444
        simp only [ev_var, ev_lit, ev_limb] at b444
        clear a444 k444
        intro a445 k445
        have v445 : e 445 = ((dec (e 442)).length : Int) := a445
        rw [d442] at v445
        try simp only [List.length_append, List.length_nil, List.length_cons, List.length_map, List.length_take, List.length_drop, Int.natCast_add, Int.natCast_zero, Int.natCast_one] at v445
        clear a445 k445
        intro a446 k446
        have b446 := c_lt a446
        simp only [ev_var, ev_lit, ev_limb] at b446
        clear a446 k446
        refine ⟨nz_ b444 (by omega), ?_⟩
        refine ⟨nz_ b446 (by omega), ?_⟩
        clear v443 b444 v445 b446
        intro a447 k447
        have d447 : dec (e 447) = dec (0) ++ dec (e 442) := (congrArg dec (show e 447 = enc (dec (0) ++ dec (e 442)) from a447)).trans (dec_enc _)
        rw [dec_zero] at d447
        rw [d442] at d447
        try simp only [List.nil_append] at d447
        clear a447 k447
        intro a448 k448
        have v448 : e 448 = ((dec (e 447)).length : Int) := a448
        rw [d447] at v448
        try simp only [List.length_append, List.length_nil, List.length_cons, List.length_map, List.length_take, List.length_drop, Int.natCast_add, Int.natCast_zero, Int.natCast_one] at v448
        clear a448 k448
        intro a449 k449
        have b449 := c_lt a449
        simp only [ev_var, ev_lit, ev_limb] at b449
        clear a449 k449
        refine ⟨nz_ b449 (by omega), ?_⟩
        clear v448 b449
        intro a450 k450
        have d450 : dec (e 450) = dec (e 447) ++ [21] := (congrArg dec (show e 450 = enc (dec (e 447) ++ [21]) from a450)).trans (dec_enc _)
        rw [d447] at d450
        try simp only [List.nil_append] at d450
        clear a450 k450
        refine ⟨trivial, ?_⟩
        intro a451 k451
        have s451 : e 451 = (semSLagr [e 0, e 450, 0]).getD 0 0 := a451
        clear a451 k451
        intro a452 k452
        have s452 : e 452 = (semSLagr [e 0, e 450, 0]).getD 1 0 := a452
        clear a452 k452
        have hla : errLa (e 0) (ids ++ [21]) 0 = 0 := by
          unfold errLa errIds errPl
          rw [if_neg (fun h => h hs), if_neg (by omega), if_neg (by rintro (h | h | h | h); omega; omega; exact h rfl; exact h hmo), if_neg (fun h => h hmn)]
        have hsl : semSLagr [e 0, e 450, 0] = [enc (lagV r (ids ++ [21]) 0), 0] := by
          simp only [semSLagr]
          rw [d450, if_pos hla, hR]
        clear hla
        obtain ⟨N, hN⟩ : ∃ N, N = lagV r (ids ++ [21]) 0 := ⟨_, rfl⟩
        obtain ⟨w, hw⟩ : ∃ w, w = lagAt r (ids ++ [21]) 0 21 := ⟨_, rfl⟩
        obtain ⟨iv, hiv⟩ : ∃ iv, iv = invM r w := ⟨_, rfl⟩
        obtain ⟨F, hF⟩ : ∃ F : Nat → Int, F = fun i => leftF r sec ((N.zip l).take i) := ⟨_, rfl⟩
        have d451 : dec (e 451) = N := by rw [s451, hsl, hN]; exact dec_enc _
        have v452 : e 452 = 0 := by rw [s452, hsl]; rfl
        have hgl : N.length = m := by rw [hN]; unfold lagV; rw [List.length_map, hml]
        have hzl : (N.zip l).length = x.length := by
          rw [List.length_zip, hgl, hll, hm1]; exact Nat.min_eq_right (Nat.le_succ _)
        have hF0 : F 0 = sec := by rw [hF]; rfl
        have hFs : ∀ i, i < x.length → F (i + 1) = (F i - N.getD i 0 * l.getD i 0 % r) % r := fun i hi => by
          rw [hF]
          show leftF r sec ((N.zip l).take (i + 1)) = _
          rw [leftF_take (by rw [hzl]; exact hi), List.getElem_zip, getD_of_lt, getD_of_lt]
        have hFl : ∀ i, 0 ≤ F i ∧ F i < r := fun i => by
          rw [hF]; exact leftF_lt (Int.lt_trans (by decide) hr) _ sec hs1
        have hFe : F x.length = leftF r sec (N.zip l) := by
          rw [hF]
          show leftF r sec ((N.zip l).take x.length) = _
          rw [List.take_of_length_le (by rw [hzl]; exact Nat.le_refl _)]
        have hNl : ∀ i, i < N.length → N.getD i 0 < r := fun i hi => by
          rw [getD_of_lt hi]
          have := List.getElem_mem hi
          generalize N[i] = z at *
          rw [hN] at this
          obtain ⟨w, _, rfl⟩ := List.mem_map.1 this
          exact Int.emod_lt_of_pos _ (Int.lt_trans (by decide) hr)
        have hNe : N.getD x.length 0 = w := by
          rw [hN, hw]
          unfold lagV
          rw [List.map_append]
          exact getD_app_end _ _ (by rw [List.length_map, idl])
        have hJ := free_ok hI hr idm idn (idl.trans hll.symm) hlt hs1
        rw [← hw, ← hiv, ← hN, ← hFe] at hJ
        have hiv2 : ∃ y, 0 ≤ y ∧ y < r ∧ w * y % r = 1 := (hJ _ rfl).1
        have hwl : w < r := by rw [hw]; exact Int.emod_lt_of_pos _ (Int.lt_trans (by decide) hr)
        have hivl : iv < r := by
          obtain ⟨y, y0, y1, y2⟩ := hiv2
          rw [hiv, (invM_eq ⟨y0, y1⟩ y2).1]; exact y1
        replace hiv : ∀ _ : Unit, iv = invM r w := fun _ => hiv
        replace hFe : ∀ _ : Unit, _ := fun _ => hFe
        replace hNe : ∀ _ : Unit, _ := fun _ => hNe
        replace hF0 : ∀ _ : Unit, _ := fun _ => hF0
        clear hw hF hsl hzl
        clear s451 s452
        intro a453 k453
        have b453 := c_ne a453
        simp only [ev_var, ev_lit, ev_limb] at b453
        clear a453 k453
        refine ⟨fun h => ?_, fun h => ?_⟩
        · have c453 := yes_ h b453
          clear h
          have d451 := d451
          show [(0 : Int)] = _
          exact absurd v452 c453
        · have c453 := no_ h b453
          clear h
          clear b453
          intro a454 k454
          have v454 : e 454 = ((dec (e 451)).length : Int) := a454
          rw [d451] at v454
          try simp only [List.length_append, List.length_nil, List.length_cons, List.length_map, List.length_take, List.length_drop, Int.natCast_add, Int.natCast_zero, Int.natCast_one] at v454
          clear a454 k454
          rw [hgl] at v454
          intro a455 k455
          have v455 : e 455 = ((dec (e 450)).length : Int) := a455
          rw [d450] at v455
          try simp only [List.length_append, List.length_nil, List.length_cons, List.length_map, List.length_take, List.length_drop, Int.natCast_add, Int.natCast_zero, Int.natCast_one] at v455
          clear a455 k455
          intro a456 k456
          have b456 := c_ne a456
          simp only [ev_var, ev_lit, ev_limb] at b456
          clear a456 k456
          refine ⟨fun h => ?_, fun h => ?_⟩
          · have c456 := yes_ h b456
            clear h
            show [(0 : Int)] = _
            exfalso; omega
          · have c456 := no_ h b456
            clear h
            clear c456 v454 v455
            clear b456
            intro a457 k457
            have v457 : e 457 = ((dec (e 1)).length : Int) := a457
            rw [d1] at v457
            try simp only [List.length_append, List.length_nil, List.length_cons, List.length_map, List.length_take, List.length_drop, Int.natCast_add, Int.natCast_zero, Int.natCast_one] at v457
            clear a457 k457
            intro a458 k458
            have v458 : e 458 = ((dec (e 345)).length : Int) := a458
            rw [d345] at v458
            try simp only [List.length_append, List.length_nil, List.length_cons, List.length_map, List.length_take, List.length_drop, Int.natCast_add, Int.natCast_zero, Int.natCast_one] at v458
            clear a458 k458
            intro a459 k459
            have b459 := c_le a459
            simp only [ev_var, ev_lit, ev_limb] at b459
            clear a459 k459
            intro a460 k460
            have b460 := c_lt a460
            simp only [ev_var, ev_lit, ev_limb] at b460
            clear a460 k460
            refine ⟨nz_ b459 (by omega), ?_⟩
            refine ⟨nz_ b460 (by omega), ?_⟩
            clear v458 b459 b460
            intro a461 k461
            have v461 : e 461 = (dec (e 345)).getD (e 457).toNat 0 := a461
            rw [d345] at v461
            clear a461 k461
            have v461 : e 461 = sec := by rw [v461]; exact getD_app_end l sec (by omega)
            have v0 : e 0 = e 0 := rfl
            refine ⟨fun | [i, q] => 0 ≤ i ∧ i ≤ x.length ∧ q = F i.toNat | _ => False, fun | [i, _] => (x.length - i).toNat | _ => 0, ⟨Int.le_refl _, (show (0 : Int) ≤ x.length by omega), v461.trans (hF0 ()).symm⟩, fun e' he0 hkk0 hI0 => ?_⟩
            have v0 := (he0 0 (by decide)).trans v0
            have v4 := (he0 4 (by decide)).trans v4
            have d345 := (congrArg dec (he0 345 (by decide))).trans d345
            have d442 := (congrArg dec (he0 442 (by decide))).trans d442
            have d450 := (congrArg dec (he0 450 (by decide))).trans d450
            have d451 := (congrArg dec (he0 451 (by decide))).trans d451
            have d1 := (congrArg dec (he0 1 (by decide))).trans d1
            obtain ⟨i0, i1, i2⟩ : 0 ≤ e' 462 ∧ e' 462 ≤ x.length ∧ e' 463 = F (e' 462).toNat := hI0
            have hq := hFl (e' 462).toNat
            rw [← i2] at hq
            intro a464 k464
            have v464 : e' 464 = ((dec (e' 1)).length : Int) := a464
            rw [d1] at v464
            try simp only [List.length_append, List.length_nil, List.length_cons, List.length_map, List.length_take, List.length_drop, Int.natCast_add, Int.natCast_zero, Int.natCast_one] at v464
            clear a464 k464
            intro a465 k465
            have b465 := c_lt a465
            simp only [ev_var, ev_lit, ev_limb] at b465
            clear a465 k465
            refine ⟨fun h => ?_, fun h => ?_⟩
            · have c465 := yes_ h b465
              clear h
              clear b465
              intro a610 k610
              have v610 : e' 610 = ((dec (e' 451)).length : Int) := a610
              rw [d451] at v610
              try simp only [List.length_append, List.length_nil, List.length_cons, List.length_map, List.length_take, List.length_drop, Int.natCast_add, Int.natCast_zero, Int.natCast_one] at v610
              clear a610 k610
              rw [hgl] at v610
              intro a611 k611
              have b611 := c_le a611
              simp only [ev_var, ev_lit, ev_limb] at b611
              clear a611 k611
              intro a612 k612
              have b612 := c_lt a612
              simp only [ev_var, ev_lit, ev_limb] at b612
              clear a612 k612
              refine ⟨nz_ b611 (by omega), ?_⟩
              refine ⟨nz_ b612 (by omega), ?_⟩
              clear b611 b612
              intro a658 k658
              have v658 : e' 658 = (dec (e' 451)).getD (e' 462).toNat 0 := a658
              rw [d451] at v658
              clear a658 k658
              have hi1 : (e' 462).toNat < N.length := by omega
              have hi2 : (e' 462).toNat < l.length := by omega
              have l658 := hNl _ hi1
              rw [← v658] at l658
              intro a802 k802
              have v802 : e' 802 = ((dec (e' 345)).length : Int) := a802
              rw [d345] at v802
              try simp only [List.length_append, List.length_nil, List.length_cons, List.length_map, List.length_take, List.length_drop, Int.natCast_add, Int.natCast_zero, Int.natCast_one] at v802
              clear a802 k802
              intro a803 k803
              have b803 := c_le a803
              simp only [ev_var, ev_lit, ev_limb] at b803
              clear a803 k803
              intro a804 k804
              have b804 := c_lt a804
              simp only [ev_var, ev_lit, ev_limb] at b804
              clear a804 k804
              refine ⟨nz_ b803 (by omega), ?_⟩
              refine ⟨nz_ b804 (by omega), ?_⟩
              clear v802 b803 b804
              intro a850 k850
              have v850 : e' 850 = (dec (e' 345)).getD (e' 462).toNat 0 := a850
              rw [d345] at v850
              clear a850 k850
              have v850 : e' 850 = l.getD (e' 462).toNat 0 := by rw [v850, getD_app_lt hi2]
              have l850 := (hlt _ (getD_mem hi2)).2
              rw [← v850] at l850
              refine ⟨trivial, ?_⟩
              intro a898 k898
              have s898 : e' 898 = (sem2 (· * ·) [e' 0, e' 658, e' 850]).getD 0 0 := a898
              clear a898 k898
              intro a899 k899
              have s899 : e' 899 = (sem2 (· * ·) [e' 0, e' 658, e' 850]).getD 1 0 := a899
              clear a899 k899
              have hs' : isS (e' 0) := by rw [v0]; exact hs
              have hm : sem2 (· * ·) [e' 0, e' 658, e' 850] = [e' 658 * e' 850 % r, 0] := by
                rw [sem2_ok hs' (by rw [v0, ← hR]; exact l658) (by rw [v0, ← hR]; exact l850), v0, ← hR]
              have v898 : e' 898 = e' 658 * e' 850 % r := by rw [s898, hm]; rfl
              have l898 : e' 898 < r := by rw [v898]; exact Int.emod_lt_of_pos _ (by omega)
              clear s898 s899
              refine ⟨trivial, ?_⟩
              intro a1234 k1234
              have s1234 : e' 1234 = (sem2 (· - ·) [e' 0, e' 463, e' 898]).getD 0 0 := a1234
              clear a1234 k1234
              intro a1235 k1235
              have s1235 : e' 1235 = (sem2 (· - ·) [e' 0, e' 463, e' 898]).getD 1 0 := a1235
              clear a1235 k1235
              have hm2 : sem2 (· - ·) [e' 0, e' 463, e' 898] = [(e' 463 - e' 898) % r, 0] := by
                rw [sem2_ok hs' (by rw [v0, ← hR]; exact hq.2) (by rw [v0, ← hR]; exact l898), v0, ← hR]
              have v1234 : e' 1234 = (e' 463 - e' 898) % r := by rw [s1234, hm2]; rfl
              clear s1234 s1235
              intro a1236 k1236
              have v1236 : e' 1236 = (e' 462) + 1 := by
                have h : e' 1236 = binE .add .i64 (e' 462) 1 := a1236
                rw [h]; simp only [binE, wr]; omega
              clear a1236 k1236
              show (0 ≤ e' 1236 ∧ e' 1236 ≤ x.length ∧ e' 1234 = F (e' 1236).toNat) ∧ (x.length - e' 1236).toNat < (x.length - e' 462).toNat
              refine ⟨⟨by omega, by omega, ?_⟩, by omega⟩
              rw [v1236, show (e' 462 + 1).toNat = (e' 462).toNat + 1 by omega, hFs _ (by omega), v1234, v898, v658, v850, i2]
            · have c465 := no_ h b465
              clear h
              clear hq
              have i2 : e' 463 = F x.length := by rw [i2, show (e' 462).toNat = x.length by omega]
              clear b465
              intro a466 k466
              have v466 : e' 466 = ((dec (e' 1)).length : Int) := a466
              rw [d1] at v466
              try simp only [List.length_append, List.length_nil, List.length_cons, List.length_map, List.length_take, List.length_drop, Int.natCast_add, Int.natCast_zero, Int.natCast_one] at v466
              clear a466 k466
              intro a467 k467
              have v467 : e' 467 = ((dec (e' 451)).length : Int) := a467
              rw [d451] at v467
              try simp only [List.length_append, List.length_nil, List.length_cons, List.length_map, List.length_take, List.length_drop, Int.natCast_add, Int.natCast_zero, Int.natCast_one] at v467
              clear a467 k467
              rw [hgl] at v467
              intro a468 k468
              have b468 := c_le a468
              simp only [ev_var, ev_lit, ev_limb] at b468
              clear a468 k468
              intro a469 k469
              have b469 := c_lt a469
              simp only [ev_var, ev_lit, ev_limb] at b469
              clear a469 k469
              refine ⟨nz_ b468 (by omega), ?_⟩
              refine ⟨nz_ b469 (by omega), ?_⟩
              clear b468 b469
              intro a470 k470
              have v470 : e' 470 = (dec (e' 451)).getD (e' 466).toNat 0 := a470
              rw [d451] at v470
              clear a470 k470
              have v470 : e' 470 = w := by rw [v470, show (e' 466).toNat = x.length by omega, hNe ()]
              refine ⟨trivial, ?_⟩
              intro a471 k471
              have s471 : e' 471 = ((kSInv f6).sem [e' 0, e' 470]).getD 0 0 := a471
              clear a471 k471
              intro a472 k472
              have s472 : e' 472 = ((kSInv f6).sem [e' 0, e' 470]).getD 1 0 := a472
              clear a472 k472
              have hs' : isS (e' 0) := by rw [v0]; exact hs
              have hv : (kSInv f6).sem [e' 0, e' 470] = [iv, 0] := by
                simp only [kSInv]
                rw [if_pos ⟨hs', by rw [v0, ← hR, v470]; exact hwl⟩, v0, ← hR, v470, if_pos hiv2, hiv ()]
              have v471 : e' 471 = iv := by rw [s471, hv]; rfl
              have v472 : e' 472 = 0 := by rw [s472, hv]; rfl
              clear s471 s472
              refine ⟨trivial, ?_⟩
              intro a473 k473
              have s473 : e' 473 = (sem2 (· * ·) [e' 0, e' 463, e' 471]).getD 0 0 := a473
              clear a473 k473
              intro a474 k474
              have s474 : e' 474 = (sem2 (· * ·) [e' 0, e' 463, e' 471]).getD 1 0 := a474
              clear a474 k474
              have hm : sem2 (· * ·) [e' 0, e' 463, e' 471] = [e' 463 * e' 471 % r, 0] := by
                rw [sem2_ok hs' (by rw [v0, ← hR, i2]; exact (hFl _).2) (by rw [v0, ← hR, v471]; exact hivl), v0, ← hR]
              have v473 : e' 473 = F x.length * iv % r := by rw [s473, hm, ← i2, ← v471]; rfl
              have l473 : 0 ≤ e' 473 ∧ e' 473 < r := by rw [v473]; exact ⟨Int.emod_nonneg _ (by omega), Int.emod_lt_of_pos _ (by omega)⟩
              have hF2 : ∀ _ : Unit, _ := fun _ => (hJ (e' 473) v473).2
              clear v473 i2 hm hv hiv2 hwl hivl v471 v470
              clear s473 s474
              intro a619 k619
              have v619 : e' 619 = ((dec (e' 1)).length : Int) := a619
              rw [d1] at v619
              try simp only [List.length_append, List.length_nil, List.length_cons, List.length_map, List.length_take, List.length_drop, Int.natCast_add, Int.natCast_zero, Int.natCast_one] at v619
              clear a619 k619
              intro a667 k667
              have v667 : e' 667 = ((dec (e' 345)).length : Int) := a667
              rw [d345] at v667
              try simp only [List.length_append, List.length_nil, List.length_cons, List.length_map, List.length_take, List.length_drop, Int.natCast_add, Int.natCast_zero, Int.natCast_one] at v667
              clear a667 k667
              intro a668 k668
              have b668 := c_le a668
              simp only [ev_var, ev_lit, ev_limb] at b668
              clear a668 k668
              intro a669 k669
              have b669 := c_le a669
              simp only [ev_var, ev_lit, ev_limb] at b669
              clear a669 k669
              intro a670 k670
              have b670 := c_le a670
              simp only [ev_var, ev_lit, ev_limb] at b670
              clear a670 k670
              refine ⟨nz_ b668 (by omega), ?_⟩
              refine ⟨nz_ b669 (by omega), ?_⟩
              refine ⟨nz_ b670 (by omega), ?_⟩
              clear v667 b668 b669 b670
              intro a715 k715
              have d715 : dec (e' 715) = ((dec (e' 345)).take (e' 619).toNat).drop ((0 : Int)).toNat := (congrArg dec (show e' 715 = enc (((dec (e' 345)).take (e' 619).toNat).drop ((0 : Int)).toNat) from a715)).trans (dec_enc _)
              rw [d345] at d715
              try simp only [List.nil_append] at d715
              clear a715 k715
              have d715 : dec (e' 715) = l := by
                rw [d715, show (e' 619).toNat = l.length by omega, List.take_left']
                · rfl
                · rfl
              intro a716 k716
              have v716 : e' 716 = ((dec (0)).length : Int) := a716
              rw [dec_zero] at v716
              try simp only [List.length_append, List.length_nil, List.length_cons, List.length_map, List.length_take, List.length_drop, Int.natCast_add, Int.natCast_zero, Int.natCast_one] at v716
              clear a716 k716
              intro a717 k717
              have b717 := c_lt a717
              simp only [ev_var, ev_lit, ev_limb] at b717
              clear a717 k717
              intro a718 k718
              have v718 : e' 718 = ((dec (e' 715)).length : Int) := a718
              rw [d715] at v718
              try simp only [List.length_append, List.length_nil, List.length_cons, List.length_map, List.length_take, List.length_drop, Int.natCast_add, Int.natCast_zero, Int.natCast_one] at v718
              clear a718 k718
              intro a719 k719
              have b719 := c_lt a719
              simp only [ev_var, ev_lit, ev_limb] at b719
              clear a719 k719
              refine ⟨nz_ b717 (by omega), ?_⟩
              refine ⟨nz_ b719 (by omega), ?_⟩
              clear v716 b717 v718 b719
              intro a720 k720
              have d720 : dec (e' 720) = dec (0) ++ dec (e' 715) := (congrArg dec (show e' 720 = enc (dec (0) ++ dec (e' 715)) from a720)).trans (dec_enc _)
              rw [dec_zero] at d720
              rw [d715] at d720
              try simp only [List.nil_append] at d720
              clear a720 k720
              intro a859 k859
              have d859 : dec (e' 859) = dec (0) ++ [e' 473] := (congrArg dec (show e' 859 = enc (dec (0) ++ [e' 473]) from a859)).trans (dec_enc _)
              rw [dec_zero] at d859
              try simp only [List.nil_append] at d859
              clear a859 k859
              intro a860 k860
              have v860 : e' 860 = ((dec (e' 720)).length : Int) := a860
              rw [d720] at v860
              try simp only [List.length_append, List.length_nil, List.length_cons, List.length_map, List.length_take, List.length_drop, Int.natCast_add, Int.natCast_zero, Int.natCast_one] at v860
              clear a860 k860
              intro a861 k861
              have b861 := c_lt a861
              simp only [ev_var, ev_lit, ev_limb] at b861
              clear a861 k861
              intro a862 k862
              have v862 : e' 862 = ((dec (e' 859)).length : Int) := a862
              rw [d859] at v862
              try simp only [List.length_append, List.length_nil, List.length_cons, List.length_map, List.length_take, List.length_drop, Int.natCast_add, Int.natCast_zero, Int.natCast_one] at v862
              clear a862 k862
              intro a863 k863
              have b863 := c_lt a863
              simp only [ev_var, ev_lit, ev_limb] at b863
              clear a863 k863
              refine ⟨nz_ b861 (by omega), ?_⟩
              refine ⟨nz_ b863 (by omega), ?_⟩
              clear v860 b861 v862 b863
              intro a864 k864
              have d864 : dec (e' 864) = dec (e' 720) ++ dec (e' 859) := (congrArg dec (show e' 864 = enc (dec (e' 720) ++ dec (e' 859)) from a864)).trans (dec_enc _)
              rw [d720] at d864
              rw [d859] at d864
              try simp only [List.nil_append] at d864
              clear a864 k864
              obtain ⟨vals, hvals⟩ : ∃ vals, vals = l ++ [e' 473] := ⟨_, rfl⟩
              rw [← hvals] at d864 hF2
              have hvl : vals.length = m := by rw [hvals, List.length_append, List.length_singleton, hll, hm1]
              have hvlt : allLt r vals := fun z hz => by
                rw [hvals] at hz
                rcases List.mem_append.1 hz with hz | hz
                · exact (hlt z hz).2
                · rw [List.mem_singleton.1 hz]; exact l473.2
              have herr : ∀ a : Int, 0 ≤ a ∧ a ≤ 1000 → errSh (e 0) (ids ++ [21]) vals a = 0 := fun a ha => errSh_zero hs (by omega) (by omega) (by rw [← hR]; exact hvlt) hmo hmn ha
              have hj : ∀ a : Int, 0 ≤ a ∧ a ≤ 1000 → semSJoin [e' 0, e' 450, e' 864, a] = [joinV r (ids ++ [21]) vals a, 0] := fun a ha => by
                rw [v0, semSJoin_ok d450 d864 (herr a ha), ← hR]
              refine ⟨trivial, ?_⟩
              intro a955 k955
              have s955 : e' 955 = (semSJoin [e' 0, e' 450, e' 864, 0]).getD 0 0 := a955
              clear a955
              intro a956 k956
              have s956 : e' 956 = (semSJoin [e' 0, e' 450, e' 864, 0]).getD 1 0 := a956
              clear a956 k956
              have v955 : e' 955 = sec := by rw [s955, hj 0 ⟨by omega, by omega⟩]; exact (hF2 ()).1
              have v956 : e' 956 = 0 := by rw [s956, hj 0 ⟨by omega, by omega⟩]; rfl
              clear s955 s956
              intro a957 k957
              have v957 : e' 957 = ((dec (e' 1)).length : Int) := a957
              rw [d1] at v957
              try simp only [List.length_append, List.length_nil, List.length_cons, List.length_map, List.length_take, List.length_drop, Int.natCast_add, Int.natCast_zero, Int.natCast_one] at v957
              clear a957 k957
              refine ⟨trivial, ?_⟩
              intro a958 k958
              have s958 : e' 958 = (semSFit [e' 0, e' 450, e' 864, e' 957]).getD 0 0 := a958
              clear a958 k958
              intro a959 k959
              have s959 : e' 959 = (semSFit [e' 0, e' 450, e' 864, e' 957]).getD 1 0 := a959
              clear a959 k959
              have hfit : semSFit [e' 0, e' 450, e' 864, e' 957] = [1, 0] := by
                rw [v0]
                refine semFit_ok d450 d864 (herr 0 ⟨by omega, by omega⟩) ⟨by omega, by omega⟩ ?_
                intro j h1 h2
                omega
              have v958 : e' 958 = 1 := by rw [s958, hfit]; rfl
              have v959 : e' 959 = 0 := by rw [s959, hfit]; rfl
              clear s958 s959
              refine ⟨fun | [i] => 0 ≤ i ∧ i ≤ x.length | _ => False, fun | [i] => (x.length - i).toNat | _ => 0, ⟨Int.le_refl _, (show (0 : Int) ≤ x.length by omega)⟩, fun e'' he1 hkk1 hI1 => ?_⟩
              have k955 : KK.num.has (e'' 955) := by rw [he1 955 (by decide)]; exact k955
              have v0 := (he1 0 (by decide)).trans v0
              have v4 := (he1 4 (by decide)).trans v4
              have d345 := (congrArg dec (he1 345 (by decide))).trans d345
              have d442 := (congrArg dec (he1 442 (by decide))).trans d442
              have d450 := (congrArg dec (he1 450 (by decide))).trans d450
              have d864 := (congrArg dec (he1 864 (by decide))).trans d864
              have d1 := (congrArg dec (he1 1 (by decide))).trans d1
              have v955 := (he1 955 (by decide)).trans v955
              have v956 := (he1 956 (by decide)).trans v956
              have v958 := (he1 958 (by decide)).trans v958
              have v959 := (he1 959 (by decide)).trans v959
              have v472 := (he1 472 (by decide)).trans v472
              obtain ⟨i0, i1⟩ : 0 ≤ e'' 960 ∧ e'' 960 ≤ x.length := hI1
              intro a961 k961
              have v961 : e'' 961 = ((dec (e'' 1)).length : Int) := a961
              rw [d1] at v961
              try simp only [List.length_append, List.length_nil, List.length_cons, List.length_map, List.length_take, List.length_drop, Int.natCast_add, Int.natCast_zero, Int.natCast_one] at v961
              clear a961 k961
              intro a962 k962
              have b962 := c_lt a962
              simp only [ev_var, ev_lit, ev_limb] at b962
              clear a962 k962
              refine ⟨fun h => ?_, fun h => ?_⟩
              · have c962 := yes_ h b962
                clear h
                clear b962
                intro a963 k963
                have v963 : e'' 963 = ((dec (e'' 442)).length : Int) := a963
                rw [d442] at v963
                try simp only [List.length_append, List.length_nil, List.length_cons, List.length_map, List.length_take, List.length_drop, Int.natCast_add, Int.natCast_zero, Int.natCast_one] at v963
                clear a963 k963
                intro a964 k964
                have b964 := c_le a964
                simp only [ev_var, ev_lit, ev_limb] at b964
                clear a964 k964
                intro a965 k965
                have b965 := c_lt a965
                simp only [ev_var, ev_lit, ev_limb] at b965
                clear a965 k965
                refine ⟨nz_ b964 (by omega), ?_⟩
                refine ⟨nz_ b965 (by omega), ?_⟩
                clear v963 b964 b965
                intro a966 k966
                have v966 : e'' 966 = (dec (e'' 442)).getD (e'' 960).toNat 0 := a966
                rw [d442] at v966
                clear a966 k966
                clear hs1 h2 hsec hgl hml hm1
                have hi1 : (e'' 960).toNat < ids.length := by omega
                have hi2 : (e'' 960).toNat < l.length := by omega
                have m966 := idm _ (getD_mem hi1)
                rw [← v966] at m966
                refine ⟨trivial, ?_⟩
                intro a967 k967
                have s967 : e'' 967 = (semSJoin [e'' 0, e'' 450, e'' 864, e'' 966]).getD 0 0 := a967
                clear a967
                intro a968 k968
                have s968 : e'' 968 = (semSJoin [e'' 0, e'' 450, e'' 864, e'' 966]).getD 1 0 := a968
                clear a968 k968
                have hj2 : semSJoin [e'' 0, e'' 450, e'' 864, e'' 966] = [joinV r (ids ++ [21]) vals (e'' 966), 0] := by
                  rw [v0, semSJoin_ok d450 d864 (herr _ ⟨by omega, by omega⟩), ← hR]
                have v967 : e'' 967 = l.getD (e'' 960).toNat 0 := by rw [s967, hj2, v966]; exact (hF2 ()).2 _ hi2
                have v968 : e'' 968 = 0 := by rw [s968, hj2]; rfl
                clear s967 s968
                intro a1017 k1017
                have b1017 := c_ne a1017
                simp only [ev_var, ev_lit, ev_limb] at b1017
                clear a1017 k1017
                refine ⟨fun h => ?_, fun h => ?_⟩
                · have c1017 := yes_ h b1017
                  clear h
                  show [(0 : Int)] = _
                  exact absurd v968 c1017
                · have c1017 := no_ h b1017
                  clear h
                  clear b1017
                  intro a1257 k1257
                  have v1257 : e'' 1257 = ((dec (e'' 345)).length : Int) := a1257
                  rw [d345] at v1257
                  try simp only [List.length_append, List.length_nil, List.length_cons, List.length_map, List.length_take, List.length_drop, Int.natCast_add, Int.natCast_zero, Int.natCast_one] at v1257
                  clear a1257 k1257
                  intro a1258 k1258
                  have b1258 := c_le a1258
                  simp only [ev_var, ev_lit, ev_limb] at b1258
                  clear a1258 k1258
                  intro a1259 k1259
                  have b1259 := c_lt a1259
                  simp only [ev_var, ev_lit, ev_limb] at b1259
                  clear a1259 k1259
                  refine ⟨nz_ b1258 (by omega), ?_⟩
                  refine ⟨nz_ b1259 (by omega), ?_⟩
                  clear v1257 b1258 b1259
                  intro a1305 k1305
                  have v1305 : e'' 1305 = (dec (e'' 345)).getD (e'' 960).toNat 0 := a1305
                  rw [d345] at v1305
                  clear a1305
                  have v1305 : e'' 1305 = l.getD (e'' 960).toNat 0 := by rw [v1305, getD_app_lt hi2]
                  intro a1353 k1353
                  have b1353 := c_num a1353 k967 k1305
                  clear a1353 k1353
                  intro a1354 k1354
                  have b1354 := c_not a1354
                  simp only [ev_var, ev_lit] at b1354
                  clear a1354 k1354
                  refine ⟨fun h => ?_, fun h => ?_⟩
                  · have c1354 := yes_ h b1354
                    clear h
                    show [(0 : Int)] = _
                    exact absurd (v967.trans v1305.symm) (no_ c1354 b1353)
                  · have c1354 := no_ h b1354
                    clear h
                    clear b1354
                    intro a1449 k1449
                    have v1449 : e'' 1449 = (e'' 960) + 1 := by
                      have h : e'' 1449 = binE .add .i64 (e'' 960) 1 := a1449
                      rw [h]; simp only [binE, wr]; omega
                    clear a1449 k1449
                    exact loop_up i0 c962 v961 v1449
              · have c962 := no_ h b962
                clear h
                clear i0 i1 c962 v961 hs1 h2 hR hsec hgl hml hm1 hvl
                clear b962
                refine ⟨fun h => ?_, fun h => ?_⟩
                · have c4 := h
                  intro a1107 k1107
                  have b1107 := c_eq a1107
                  simp only [ev_var, ev_lit, ev_limb] at b1107
                  clear a1107 k1107
                  refine ⟨fun h => ?_, fun h => ?_⟩
                  · have c1107 := yes_ h b1107
                    clear h
                    clear b1107
                    intro a1299 k1299
                    have b1299 := c_eq a1299
                    simp only [ev_var, ev_lit, ev_limb] at b1299
                    clear a1299 k1299
                    refine ⟨fun h => ?_, fun h => ?_⟩
                    · have c1299 := yes_ h b1299
                      clear h
                      clear b1299
                      intro a1491 k1491
                      have b1491 := c_eq a1491
                      simp only [ev_var, ev_lit, ev_limb] at b1491
                      clear a1491 k1491
                      refine ⟨fun h => ?_, fun h => ?_⟩
                      · have c1491 := yes_ h b1491
                        clear h
                        clear b1491
                        intro a1779 k1779
                        have v1779 : e'' 1779 = ((dec (e'' 1)).length : Int) := a1779
                        rw [d1] at v1779
                        try simp only [List.length_append, List.length_nil, List.length_cons, List.length_map, List.length_take, List.length_drop, Int.natCast_add, Int.natCast_zero, Int.natCast_one] at v1779
                        clear a1779 k1779
                        intro a1827 k1827
                        have v1827 : e'' 1827 = ((dec (e'' 345)).length : Int) := a1827
                        rw [d345] at v1827
                        try simp only [List.length_append, List.length_nil, List.length_cons, List.length_map, List.length_take, List.length_drop, Int.natCast_add, Int.natCast_zero, Int.natCast_one] at v1827
                        clear a1827 k1827
                        intro a1828 k1828
                        have b1828 := c_le a1828
                        simp only [ev_var, ev_lit, ev_limb] at b1828
                        clear a1828 k1828
                        intro a1829 k1829
                        have b1829 := c_lt a1829
                        simp only [ev_var, ev_lit, ev_limb] at b1829
                        clear a1829 k1829
                        refine ⟨nz_ b1828 (by omega), ?_⟩
                        refine ⟨nz_ b1829 (by omega), ?_⟩
                        clear v1827 b1828 b1829
                        intro a1875 k1875
                        have v1875 : e'' 1875 = (dec (e'' 345)).getD (e'' 1779).toNat 0 := a1875
                        rw [d345] at v1875
                        clear a1875
                        have v1875 : e'' 1875 = sec := by rw [v1875]; exact getD_app_end l sec (by rw [v1779, Int.toNat_natCast, hll])
                        intro a1923 k1923
                        have b1923 := c_num a1923 k955 k1875
                        clear a1923 k1923
                        refine ⟨fun h => ?_, fun h => ?_⟩
                        · have c1923 := yes_ h b1923
                          clear h
                          show [e'' 958] = _
                          rw [v958]
                        · have c1923 := no_ h b1923
                          clear h
                          show [(0 : Int)] = _
                          exact absurd (v955.trans v1875.symm) c1923
                      · have c1491 := no_ h b1491
                        clear h
                        show [(0 : Int)] = _
                        exact absurd v959 c1491
                    · have c1299 := no_ h b1299
                      clear h
                      show [(0 : Int)] = _
                      exact absurd v956 c1299
                  · have c1107 := no_ h b1107
                    clear h
                    show [(0 : Int)] = _
                    exact absurd v472 c1107
                · have c4 := h
                  show [(0 : Int)] = _
                  exact absurd (c4.symm.trans v4) (by decide)
end Go.Sx
