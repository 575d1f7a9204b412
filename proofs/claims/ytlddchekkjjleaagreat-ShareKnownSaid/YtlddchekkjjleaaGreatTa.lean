/- The library's own contracts, laid. -/
import Derived.Test.YtlddchekkjjleaaGreatProg
import Derived.Ground.NamesProg
import Derived.Ground.Names2Prog
import Derived.Shelf.Abstract
import Derived.Shelf.Slices.In.SortNone
import Derived.Shelf.Sort.Plain
import Derived.Shelf.Slices.Clone
import Derived.Shelf.Slices.CompactI
import Derived.Shelf.Slices.Cells
import Derived.WalkKit
import Derived.Deep.LoopGhost
import Derived.Sort.OwnSorted
import Derived.Sort.Grow
import Derived.Lib.OwnBridge
import Derived.Lib.SortBridge
import Derived.Shelf.RegionOpen
import Derived.Test.YtlddchekkjjleaaGreatHg
import Derived.Lib.SmallJoins
import Derived.Lib.RowBridge
set_option linter.unusedVariables false
set_option linter.unusedSimpArgs false
namespace Go.Proofs
open Go.Shelf
def Tryz.laysSort_ren : Go.Shelf.Ren := ⟨fun | 189 => 219 | 125 => 315 | 257 => 314 | 128 => 366 | 129 => 164 | 294 => 357 | 295 => 358 | 296 => 359 | 297 => 360 | 298 => 361 | 299 => 362 | 216 => 363 | 300 => 364 | 301 => 365 | 328 => 377 | 329 => 378 | 330 => 379 | 331 => 380 | 332 => 381 | 215 => 382 | 343 => 384 | n => n, fun | 28 => 84 | 3 => 3 | 46 => 194 | 0 => 0 | 51 => 360 | 53 => 23 | 4 => 4 | 183 => 352 | 182 => 351 | 131 => 357 | 5 => 5 | 9 => 9 | 218 => 367 | 222 => 371 | 228 => 373 | 229 => 374 | n => n, fun | n => n⟩
theorem Tryz.laysSort : Go.Proofs.Lays.n189 Tryz.prog Tryz.laysSort_ren :=
  { mixed := by kernel_rfl,
    f125 := Tryz.func315.trans (congrArg some (by kernel_rfl)),
    f128 := Tryz.func366.trans (congrArg some (by kernel_rfl)),
    f129 := Tryz.func164.trans (congrArg some (by kernel_rfl)),
    f189 := Tryz.func219.trans (congrArg some (by kernel_rfl)),
    f215 := Tryz.func382.trans (congrArg some (by kernel_rfl)),
    f216 := Tryz.func363.trans (congrArg some (by kernel_rfl)),
    f257 := Tryz.func314.trans (congrArg some (by kernel_rfl)),
    f294 := Tryz.func357.trans (congrArg some (by kernel_rfl)),
    f295 := Tryz.func358.trans (congrArg some (by kernel_rfl)),
    f296 := Tryz.func359.trans (congrArg some (by kernel_rfl)),
    f297 := Tryz.func360.trans (congrArg some (by kernel_rfl)),
    f298 := Tryz.func361.trans (congrArg some (by kernel_rfl)),
    f299 := Tryz.func362.trans (congrArg some (by kernel_rfl)),
    f300 := Tryz.func364.trans (congrArg some (by kernel_rfl)),
    f301 := Tryz.func365.trans (congrArg some (by kernel_rfl)),
    f328 := Tryz.func377.trans (congrArg some (by kernel_rfl)),
    f329 := Tryz.func378.trans (congrArg some (by kernel_rfl)),
    f330 := Tryz.func379.trans (congrArg some (by kernel_rfl)),
    f331 := Tryz.func380.trans (congrArg some (by kernel_rfl)),
    f332 := Tryz.func381.trans (congrArg some (by kernel_rfl)),
    f343 := Tryz.func384.trans (congrArg some (by kernel_rfl)),
    t0 := Tryz.underlying0,
    a0 := Tryz.isAgg0,
    z0 := Tryz.sizeOf0,
    v0 := Tryz.zeroValue0,
    t3 := Tryz.underlying3,
    a3 := Tryz.isAgg3,
    z3 := Tryz.sizeOf3,
    v3 := Tryz.zeroValue3,
    t4 := Tryz.underlying4,
    a4 := Tryz.isAgg4,
    z4 := Tryz.sizeOf4,
    v4 := Tryz.zeroValue4,
    t5 := Tryz.underlying5,
    a5 := Tryz.isAgg5,
    z5 := Tryz.sizeOf5,
    v5 := Tryz.zeroValue5,
    t9 := Tryz.underlying9,
    a9 := Tryz.isAgg9,
    z9 := Tryz.sizeOf9,
    v9 := Tryz.zeroValue9,
    t28 := Tryz.underlying84,
    a28 := Tryz.isAgg84,
    z28 := Tryz.sizeOf84,
    v28 := Tryz.zeroValue84,
    t46 := Tryz.underlying194,
    a46 := Tryz.isAgg194,
    z46 := Tryz.sizeOf194,
    v46 := Tryz.zeroValue194,
    t51 := Tryz.underlying360,
    a51 := Tryz.isAgg360,
    z51 := Tryz.sizeOf360,
    v51 := Tryz.zeroValue360,
    t53 := Tryz.underlying23,
    a53 := Tryz.isAgg23,
    z53 := Tryz.sizeOf23,
    v53 := Tryz.zeroValue23,
    t131 := Tryz.underlying357,
    a131 := Tryz.isAgg357,
    z131 := Tryz.sizeOf357,
    v131 := Tryz.zeroValue357,
    t182 := Tryz.underlying351,
    a182 := Tryz.isAgg351,
    z182 := Tryz.sizeOf351,
    v182 := Tryz.zeroValue351,
    t183 := Tryz.underlying352,
    a183 := Tryz.isAgg352,
    z183 := Tryz.sizeOf352,
    v183 := Tryz.zeroValue352,
    t218 := Tryz.underlying367,
    a218 := Tryz.isAgg367,
    z218 := Tryz.sizeOf367,
    v218 := Tryz.zeroValue367,
    t222 := Tryz.underlying371,
    a222 := Tryz.isAgg371,
    z222 := Tryz.sizeOf371,
    v222 := Tryz.zeroValue371,
    t228 := Tryz.underlying373,
    a228 := Tryz.isAgg373,
    z228 := Tryz.sizeOf373,
    v228 := Tryz.zeroValue373,
    t229 := Tryz.underlying374,
    a229 := Tryz.isAgg374,
    z229 := Tryz.sizeOf374,
    v229 := Tryz.zeroValue374 }
def Tryz.laysClone_ren : Go.Shelf.Ren := ⟨fun | 15 => 218 | n => n, fun | 22 => 84 | 3 => 3 | 4 => 4 | n => n, fun | n => n⟩
theorem Tryz.laysClone : Go.Proofs.Lays2.n15 Tryz.prog Tryz.laysClone_ren :=
  { mixed := by kernel_rfl,
    f15 := Tryz.func218.trans (congrArg some (by kernel_rfl)),
    t3 := Tryz.underlying3,
    a3 := Tryz.isAgg3,
    z3 := Tryz.sizeOf3,
    v3 := Tryz.zeroValue3,
    t4 := Tryz.underlying4,
    a4 := Tryz.isAgg4,
    z4 := Tryz.sizeOf4,
    v4 := Tryz.zeroValue4,
    t22 := Tryz.underlying84,
    a22 := Tryz.isAgg84,
    z22 := Tryz.sizeOf84,
    v22 := Tryz.zeroValue84,
    i3 := by kernel_rfl }
def Tryz.laysCompact_ren : Go.Shelf.Ren := ⟨fun | 20 => 220 | n => n, fun | 22 => 84 | 3 => 3 | 4 => 4 | 0 => 0 | n => n, fun | n => n⟩
theorem Tryz.laysCompact : Go.Proofs.Lays2.n20 Tryz.prog Tryz.laysCompact_ren :=
  { mixed := by kernel_rfl,
    f20 := Tryz.func220.trans (congrArg some (by kernel_rfl)),
    t0 := Tryz.underlying0,
    a0 := Tryz.isAgg0,
    z0 := Tryz.sizeOf0,
    v0 := Tryz.zeroValue0,
    t3 := Tryz.underlying3,
    a3 := Tryz.isAgg3,
    z3 := Tryz.sizeOf3,
    v3 := Tryz.zeroValue3,
    t4 := Tryz.underlying4,
    a4 := Tryz.isAgg4,
    z4 := Tryz.sizeOf4,
    v4 := Tryz.zeroValue4,
    t22 := Tryz.underlying84,
    a22 := Tryz.isAgg84,
    z22 := Tryz.sizeOf84,
    v22 := Tryz.zeroValue84,
    i3 := by kernel_rfl }
end Go.Proofs

/- What is wrong with ids and a place: the walk. -/
namespace Go.Sx
open Go Go.Proofs Go.RowKit Go.Shelf Go.Sort
set_option linter.unusedVariables false
/-- what is told -/
def plAns (ids : List Int) (n a : Int) (b : Bool) (k : Nat) : Int := if a < 0 ∨ 1000 < a ∨ n ≠ ids.length ∨ b = true then 2 else if k ≠ ids.length then 7 else 0
set_option maxHeartbeats 2000000 in
set_option maxRecDepth 100000 in
theorem places_none (v : Value) (a0 : Option Addr) (cap : Nat) (hv : v = .slice a0 0 cap) (n a : Int) (b : Bool) (w : World)
    (hcont : Calls Tryz.prog 216 #[v, .func (.func 217) #[] #[]] w fun e w' => e = .returned (.bool b) ∧ Below w.heap.size w w')
    (hclone : ∀ w1, Below w.heap.size w w1 → Calls Tryz.prog 218 #[v] w1 fun e w2 => (∃ p c, e = .returned (.slice p 0 c)) ∧ Below w.heap.size w w2) :
    Calls Tryz.prog 115 #[v, .int .i64 n, .int .i64 a] w fun e w' => e = .returned (.int .i64 (plAns [] n a b 0)) ∧ Below w.heap.size w w' := by
  subst hv
  cases b <;> go_enter Tryz.func115, Tryz.ntmps115
  all_goals go_wp2_with (first
    | (go_at_call 216; refine hcont.mono ?_; rintro e w1 ⟨rfl, hb1⟩)
    | (go_at_call 218; refine (hclone _ (by first | assumption | exact Below.refl _ _)).mono ?_; rintro e w2 ⟨⟨p, c, rfl⟩, hb2⟩)
    | (go_at_call 219; refine (Any.slices_Sort_int_none Tryz.laysSort _ _ _).mono ?_; rintro e w3 ⟨rfl, rfl⟩)
    | (go_at_call 220; refine (Any.slices_Compact_int_empty Tryz.laysCompact _ _ _).mono ?_; rintro e w4 ⟨rfl, rfl⟩))
  all_goals go_ret
  all_goals refine ⟨?_, by first | assumption | exact Below.refl _ _⟩
  all_goals (unfold plAns; simp only [List.length_nil])
  all_goals (split <;> (try split) <;> first | rfl | (exfalso; simp_all; done) | (exfalso; simp_all; omega))
theorem grownBy_sorted' {w : World} {g n : Nat} {os : Array Obj} (d : Array Int) : w.grownBy (grow (putRow (Value.int .i64) (Sort.ahead w n) g 0 d) os) (some g) := by
  refine ⟨rfl, rfl, rfl, by simp [grow, putRow, mapBlock, Sort.ahead], fun k hk hne => ?_⟩
  rw [heap_grow_old _ _ (by simpa [putRow, mapBlock, Sort.ahead] using hk)]
  have : g ≠ k := fun e => hne (by rw [e])
  simp [putRow, mapBlock, Sort.ahead, Array.getElem?_modify, this]
set_option maxHeartbeats 2000000 in
set_option maxRecDepth 100000 in
theorem places_some (ids : List Int) (N : Nat) (hN : ids.length = N) (hNs : N ≤ 64) (v : Value) (a0 : Option Addr) (cap0 : Nat) (hv : v = .slice a0 N cap0) (n a : Int) (b : Bool) (w : World)
    (hcont : Calls Tryz.prog 216 #[v, .func (.func 217) #[] #[]] w fun e w' => e = .returned (.bool b) ∧ Below w.heap.size w w')
    (hclone : ∀ w1, Below w.heap.size w w1 → Calls Tryz.prog 218 #[v] w1 fun e w2 => ∃ v', e = .returned v' ∧ w2.ownsRow w.heap.size 3 1 v' N (ids.map (Value.int .i64)) ∧ v' ≠ .slice none 0 0 ∧ Below w.heap.size w w2) :
    Calls Tryz.prog 115 #[v, .int .i64 n, .int .i64 a] w fun e w' => e = .returned (.int .i64 (plAns ids n a b (Lib.compact (ids.mergeSort fun x y => decide (x ≤ y))).length)) ∧ Below w.heap.size w w' := by
  subst hv
  have hml : (ids.mergeSort fun x y => decide (x ≤ y)).length = N := by rw [List.length_mergeSort]; exact hN
  obtain ⟨ts, hts⟩ : ∃ ts, ts = ids.mergeSort fun x y => decide (x ≤ y) := ⟨_, rfl⟩
  rw [← hts] at hml ⊢
  have hsort := fun (g cap : Nat) (w : World) hH hb => Any.slices_Sort_int Tryz.laysSort g 0 cap ids w hH hb (by omega)
  rw [hN, ← hts] at hsort
  have hcomp := fun (g cap : Nat) (w : World) hH hc => Any.slices_Compact_int Tryz.laysCompact g 0 cap ts w hH (by omega) hc
  rw [hml] at hcomp
  clear hts
  cases b <;> go_enter Tryz.func115, Tryz.ntmps115
  all_goals go_wp2_with (first
    | (go_at_call 216; refine hcont.mono ?_; rintro e w1 ⟨rfl, hb1⟩)
    | (go_at_call 218; refine (hclone _ (by first | assumption | exact Below.refl _ _)).mono ?_; rintro e w2 ⟨v1, rfl, hown, hnn, hbel⟩
       obtain ⟨g, cap, rfl, hbg, hgl, hncap, hcm, hlen, hH⟩ := Lib.holds_of_ownsRow hown hnn
       have hs2 := hsort g cap w2 hH hgl
       have X : Aside (Below w.heap.size w w2 ∧ w.heap.size ≤ g ∧ g < w2.heap.size ∧ N ≤ cap ∧ Holds (Value.int .i64) w2 g 0 ids.toArray) := ⟨hbel, hbg, hgl, hncap, hH⟩
       clear hown hbel hH hnn)
    | (go_at_call 219; refine hs2.mono ?_; rintro e w3 ⟨rfl, nn, os, rfl⟩
       have hH2 : Holds (Value.int .i64) (grow (putRow (Value.int .i64) (Sort.ahead w2 nn) g 0 ts.toArray) os) g 0 ts.toArray :=
         holds_grow _ _ os g 0 _ (by simpa [putRow, mapBlock, Sort.ahead] using X.out.2.2.1) (holds_putRow _ _ g 0 _ _ (holds_ahead _ w2 nn g 0 _ X.out.2.2.2.2) (by simp [hml, hN]))
       have hc2 := hcomp g cap _ hH2 (by have := X.out.2.2.2.1; omega)
       clear hH2 hs2)
    | (go_at_call 220; refine hc2.mono ?_; rintro e w4 ⟨rfl, q, rfl⟩))
  all_goals go_ret
  all_goals refine ⟨?_, by first | assumption | exact Below.refl _ _ | exact Lib.below_putRow (X.out.1.grown (grownBy_sorted' _) X.out.1.size (fun j hj => by cases hj; exact X.out.2.1)) X.out.2.1⟩
  all_goals unfold plAns
  all_goals (split <;> (try split) <;> first | rfl | (exfalso; simp_all; done) | (exfalso; simp_all; omega))
end Go.Sx

/- What is wrong with ids and a place: the contract. -/
namespace Go.Sx
open Go Go.Proofs Go.RowKit Go.Shelf Go.Sort
set_option linter.unusedVariables false
theorem compact_keeps {zs : List Int} (h : (Lib.compact zs).length = zs.length) (j : Nat) (hj : j < zs.length) : Lib.keeps zs.toArray j = true := by
  unfold Lib.compact Lib.compactUpTo at h
  rw [List.length_map] at h
  have h2 : ((List.range zs.length).filter (Lib.keeps zs.toArray)).length = (List.range zs.length).length := by rw [h, List.length_range]
  exact List.length_filter_eq_length_iff.1 h2 j (List.mem_range.2 hj)
theorem keeps_iff (zs : List Int) {j : Nat} (hj : j < zs.length) (h0 : 0 < j) : Lib.keeps zs.toArray j = true ↔ zs.toArray[j]! ≠ zs.toArray[j - 1]! := by
  unfold Lib.keeps
  rw [decide_eq_true_iff]
  constructor
  · rintro (h | h)
    · omega
    · exact h
  · exact .inr
theorem arr_get (zs : List Int) {j : Nat} (hj : j < zs.length) : zs.toArray[j]! = zs[j] := by simp [getElem!_pos, hj]
theorem compact_nodup {zs : List Int} (hs : zs.Pairwise (· ≤ ·)) : (Lib.compact zs).length = zs.length ↔ zs.Nodup := by
  constructor
  · intro h
    refine List.pairwise_iff_getElem.2 fun i j hi hj hij => ?_
    have h1 := (keeps_iff zs hj (by omega)).1 (compact_keeps h j hj)
    rw [arr_get zs hj, arr_get zs (by omega : j - 1 < zs.length)] at h1
    have h2 := List.pairwise_iff_getElem.1 hs (j - 1) j (by omega) hj (by omega)
    have h3 : zs[i] ≤ zs[j - 1] := by
      by_cases he : i = j - 1
      · subst he; exact Int.le_refl _
      · exact List.pairwise_iff_getElem.1 hs i (j - 1) hi (by omega) (by omega)
    omega
  · intro h
    rw [Lib.compact_all]
    intro j hj
    by_cases h0 : j = 0
    · subst h0; exact Lib.keeps_lt_one _ 0 (by omega)
    · refine (keeps_iff zs hj (by omega)).2 ?_
      rw [arr_get zs hj, arr_get zs (by omega : j - 1 < zs.length)]
      exact fun he => List.pairwise_iff_getElem.1 h (j - 1) j (by omega) hj (by omega) he.symm
theorem sorted_nodup (ids : List Int) : (Lib.compact (ids.mergeSort fun x y => decide (x ≤ y))).length = ids.length ↔ ids.Nodup := by
  have hs : (ids.mergeSort fun x y => decide (x ≤ y)).Pairwise (· ≤ ·) := by
    have := List.pairwise_mergeSort (le := fun (x y : Int) => decide (x ≤ y)) (fun a b c h1 h2 => by simp at *; omega) (fun a b => by simp; omega) ids
    exact this.imp fun h => by simpa using h
  have := compact_nodup hs
  rw [List.length_mergeSort] at this
  rw [this]
  exact (List.mergeSort_perm ids _).nodup_iff
theorem plAns_eq (ids : List Int) (n a : Int) : plAns ids n a (decide (¬ idsOk ids)) (Lib.compact (ids.mergeSort fun x y => decide (x ≤ y))).length = errPl ids n a := by
  have hn := sorted_nodup ids
  unfold plAns errPl
  by_cases h1 : a < 0 ∨ 1000 < a ∨ n ≠ ids.length ∨ ¬ idsOk ids
  · rw [if_pos h1, if_pos (by simpa only [decide_eq_true_eq] using h1)]
  · rw [if_neg h1, if_neg (by simpa only [decide_eq_true_eq] using h1)]
    by_cases h2 : ids.Nodup
    · rw [if_neg (fun h => h (hn.2 h2)), if_neg (fun h => h h2)]
    · rw [if_pos (fun h => h2 (hn.1 h)), if_pos h2]
theorem flat_int (l : List Int) : flat (.int .i64) l = l.map (Value.int .i64) := by
  unfold flat
  induction l with
  | nil => rfl
  | cons z l ih => rw [List.flatMap_cons, ih]; rfl
theorem places_ok (hc : (kCont 217 216).ok Tryz.prog) : (kPlaces 115).ok Tryz.prog := by
  intro w args xs hin hpre
  rcases xs with _ | ⟨x, _ | ⟨n, _ | ⟨a, _ | ⟨_, xs⟩⟩⟩⟩
  case cons.cons.cons.nil =>
    rcases args with _ | ⟨v0, _ | ⟨v1, _ | ⟨v2, _ | ⟨v3, args⟩⟩⟩⟩
    case cons.cons.cons.nil =>
      have hl : (dec x).length ≤ 64 := hpre
      obtain ⟨h0, r0, h1, r1, h2, r2, _⟩ := hin
      have r0' : RoRow w w (.int .i64) v0 (dec x) := r0
      have r1' : v1 = .int .i64 n := List.cons.inj r1 |>.1
      have r2' : v2 = .int .i64 a := List.cons.inj r2 |>.1
      subst r1' r2'
      have hcont : Calls Tryz.prog 216 #[v0, .func (.func 217) #[] #[]] w fun e w' => e = .returned (.bool (decide (¬ idsOk (dec x)))) ∧ Below w.heap.size w w' := by
        have hh := hc w [v0, .func (.func 217) #[] #[]] [x] ⟨h0, r0, trivial, rfl, rfl, rfl⟩ trivial
        rw [if_neg (by decide)] at hh
        refine hh.2.mono ?_
        rintro e w' ⟨vs, rfl, ho, hb⟩
        refine ⟨?_, hb⟩
        rcases vs with _ | ⟨u, _ | ⟨u', vs⟩⟩
        · exact False.elim ho
        · have hu : u = .bool (decide (bi (¬ idsOk (dec x)) ≠ 0)) := List.cons.inj ho.2.1 |>.1
          rw [hu]
          show Ending.returned (Value.bool _) = _
          by_cases hi : idsOk (dec x)
          · have q : decide (¬ idsOk (dec x)) = false := decide_eq_false (fun h => h hi)
            rw [bi_0 (p := ¬ idsOk (dec x)) (fun h => h hi), q]; rfl
          · have q : decide (¬ idsOk (dec x)) = true := decide_eq_true hi
            rw [bi_1 (p := ¬ idsOk (dec x)) hi, q]; rfl
        · exact absurd ho.2.2.2 (by simp)
      have goal : ∀ e w', (e = Ending.returned (.int .i64 (errPl (dec x) n a)) ∧ Below w.heap.size w w') → ∃ vs, e = .returned (retV vs) ∧ outsRel w.heap.size w' (kPlaces 115).outs ((kPlaces 115).sem [x, n, a]) vs ∧ Below w.heap.size w w' := by
        rintro e w' ⟨rfl, hb⟩
        refine ⟨[.int .i64 (errPl (dec x) n a)], rfl, ⟨⟨?_, trivial⟩, rfl, rfl, rfl⟩, hb⟩
        show has .i64 (errPl (dec x) n a)
        have : errPl (dec x) n a = 2 ∨ errPl (dec x) n a = 7 ∨ errPl (dec x) n a = 0 := by
          unfold errPl
          split
          · exact .inl rfl
          · split
            · exact .inr (.inl rfl)
            · exact .inr (.inr rfl)
        rcases this with h | h | h <;> rw [h] <;> exact ⟨by decide, by decide⟩
      refine ⟨enters_of Tryz.func115 (by kernel_rfl) rfl _ _, ?_⟩
      rw [← plAns_eq] at goal
      by_cases hz : dec x = []
      · have hv : ∃ a0 cap, v0 = .slice a0 0 cap := by
          rcases r0' with ⟨h, _⟩ | ⟨ad, cap, h, _⟩
          · exact ⟨_, _, h⟩
          · rw [hz] at h; exact ⟨_, _, h⟩
        obtain ⟨a0, cap, rfl⟩ := hv
        have hw := places_none (.slice a0 0 cap) a0 cap rfl n a _ w hcont (fun w1 hb => by
          rcases a0 with _ | ad
          · refine (Any.slices_Clone_int_nil Tryz.laysClone 0 cap w1).mono ?_
            rintro e w2 ⟨rfl, rfl⟩
            exact ⟨⟨none, 0, rfl⟩, hb⟩
          · refine (Any.slices_Clone_int_zero Tryz.laysClone ad cap w1).mono ?_
            rintro e w2 ⟨v', rfl, ho, hnn, hb2⟩
            rcases Go.Joins.ownsRow_forms ho with ⟨h, _⟩ | ⟨g, c, h⟩
            · exact absurd h hnn
            · exact ⟨⟨_, c, by rw [h]⟩, hb.trans (hb2.mono hb.size)⟩)
        refine hw.mono fun e w' he => goal e w' ?_
        have h0 : (Lib.compact (([] : List Int).mergeSort fun x y => decide (x ≤ y))).length = 0 := by
          rw [List.mergeSort_nil]; rfl
        rw [hz] at he ⊢
        rw [h0]
        exact he
      · rcases r0' with ⟨_, h⟩ | ⟨ad, cap, hv, hbl, hcap, hcell⟩
        · exact absurd h hz
        · have hpos : 0 < (dec x).length := List.length_pos_iff.2 hz
          have hsp : ad = ⟨ad.block, ad.off, none⟩ := by
            obtain ⟨bb, off, sp⟩ := ad
            rcases sp with _ | sp
            · rfl
            · have := hcell 0 _ (by rw [flat_int, List.getElem?_map, List.getElem?_eq_getElem hpos]; rfl)
              simp [Addr.add, World.cell?] at this
              split at this <;> simp at this
          have hw := places_some (dec x) (dec x).length rfl hl v0 (some ad) cap hv n a _ w hcont (fun w1 hb => by
            have hcl := Any.slices_Clone_int Tryz.laysClone ad.block ad.off (dec x).length cap (dec x) w1 (Nat.le_refl _) (by omega) (fun j hj => by
              rw [hb.cell (by exact hbl)]
              have := hcell j _ (by rw [flat_int, List.getElem?_map, List.getElem?_eq_getElem hj]; rfl)
              rw [hsp, Addr.add_lit] at this
              rw [this, List.getD_eq_getElem?_getD, List.getElem?_eq_getElem hj]; rfl)
            rw [hv, hsp]
            refine hcl.mono ?_
            rintro e w2 ⟨v', rfl, ho, hnn, hb2⟩
            rw [List.take_length] at ho
            exact ⟨v', rfl, Go.Joins.ownsRow_le ho hb.size, hnn, hb.trans (hb2.mono hb.size)⟩)
          exact hw.mono fun e w' he => goal e w' he
    all_goals exact False.elim (by simp [kPlaces, insRel] at hin)
  all_goals exact False.elim hpre
end Go.Sx
