/- Laws: digits read, a shift by four bits; the first generator. -/
import Derived.Test.YtlddchekkjjleaaGreatHg
import Derived.Test.YtlddchekkjjleaaGreatGd
import Derived.Lib.Bytealg
set_option linter.unusedVariables false
set_option linter.unusedSimpArgs false
namespace Go.Sx
open Go Go.RowKit
set_option maxRecDepth 100000
set_option linter.unusedVariables false
set_option linter.unusedSimpArgs false
def hexS : ByteArray := ⟨#[48, 49, 50, 51, 52, 53, 54, 55, 56, 57, 97, 98, 99, 100, 101, 102]⟩
def kIdx (f : FuncId) : K := { fn := f, ext := true, ins := [.one (.cst (.str hexS)), .one (.int .u8)], outs := [oI], pre := fun _ => True, sem := fun | [c] => [if 48 ≤ c ∧ c ≤ 57 then c - 48 else if 97 ≤ c ∧ c ≤ 102 then c - 87 else -1] | _ => [], fold := true }
theorem idx_hex : ∀ c : Nat, c < 256 → Lib.indexByte hexS.data.toList (c.toUInt8) = if 48 ≤ (c : Int) ∧ (c : Int) ≤ 57 then (c : Int) - 48 else if 97 ≤ (c : Int) ∧ (c : Int) ≤ 102 then (c : Int) - 87 else -1 := by decide +kernel
theorem ok_idx {P : Program} {f : FuncId} {fn : Func} (hf : P.funcs[f]? = some fn) (h1 : (fn.name == "runtime.NumGoroutine") = false) (h2 : fn.body.isNone = true) (h3 : Extern.findNext fn = none) (h4 : Extern.find fn = some Extern.BytealgIndexByte.indexByte) : (kIdx f).ok P := by
  intro w args xs hin hpre
  match args, hin with
  | u :: args, hin =>
    obtain ⟨_, hu, hin⟩ := hin
    have hu : [u] = [Value.string hexS] := hu
    obtain rfl := List.head_eq_of_cons_eq hu
    have hin : insRel w [.one (.int .u8)] xs args := hin
    obtain ⟨c, xs, args, rfl, rfl, hc, hin⟩ := in_int hin
    obtain ⟨rfl, rfl⟩ := in_nil hin
    have hc0 : 0 ≤ c ∧ c ≤ 255 := hc
    obtain ⟨n, rfl⟩ := Int.eq_ofNat_of_zero_le hc0.1
    have hv := idx_hex n (by omega)
    simp only [kIdx, if_true]
    refine ⟨[.int .i64 (if 48 ≤ (n : Int) ∧ (n : Int) ≤ 57 then (n : Int) - 48 else if 97 ≤ (n : Int) ∧ (n : Int) ≤ 102 then (n : Int) - 87 else -1)], ?_, ?_⟩
    · rw [run_callFunc_extern hf h1 h2 h3 h4]
      rw [show ([Value.string hexS, .int .u8 (n : Int)] : List Value).toArray = #[.string hexS, .int .u8 (n : Int)] from rfl, Lib.run_indexByteString, Int.toNat_natCast, hv]
      rfl
    · refine ⟨⟨?_, trivial⟩, rfl, rfl, rfl⟩
      simp only [has, lo, hi]
      split
      · omega
      · split <;> omega
def kShl4 (f : FuncId) : K := { fn := f, ext := false, ins := [iN, .one (.cst (.int .i64 (.lit 4)))], outs := [oN], pre := fun | [a] => a < 2 ^ 380 | _ => False, sem := fun | [a] => [16 * a] | _ => [] }
theorem shl_4 {v x : Int} (h : v = binE .shl .u64 x 4) : v = 16 * x % 18446744073709551616 := by
  have := shl_d 16 h rfl
  simp only [wr] at this
  omega
theorem or_4 {v s r lj lp : Int} (h : v = binE .or .u64 s r) (hs : s = binE .shl .u64 lj 4) (hr : r = binE .shr .u64 lp 60) (uj : U lj) (up : U lp) : v = 16 * lj % 18446744073709551616 + lp / 1152921504606846976 := by
  have h1 := shl_d 16 hs rfl
  have h2 := shr_d 1152921504606846976 hr (by decide) (by decide)
  unfold U at *
  simp only [wr] at h1
  rw [or_dis (k := 4) (q := lj % 1152921504606846976) h (by omega) (by omega) (by omega) (by omega)]
  omega
theorem hex_join {x o0 o1 o2 o3 o4 o5 : Int} (hx : 0 ≤ x ∧ x < N384) (hs : x < 2462625387274654950767440006258975862817483704404090416746768337765357610718575663213391640930307227550414249394176) (h0 : o0 = 16 * lim x 0 % 18446744073709551616) (h1 : o1 = 16 * lim x 1 % 18446744073709551616 + lim x 0 / 1152921504606846976)
    (h2 : o2 = 16 * lim x 2 % 18446744073709551616 + lim x 1 / 1152921504606846976) (h3 : o3 = 16 * lim x 3 % 18446744073709551616 + lim x 2 / 1152921504606846976) (h4 : o4 = 16 * lim x 4 % 18446744073709551616 + lim x 3 / 1152921504606846976)
    (h5 : o5 = 16 * lim x 5 % 18446744073709551616 + lim x 4 / 1152921504606846976) : joinE [o0, o1, o2, o3, o4, o5] = 16 * x := by
  have ex := lim_eq hx
  have l0 := lim_lt x 0
  have l1 := lim_lt x 1
  have l2 := lim_lt x 2
  have l3 := lim_lt x 3
  have l4 := lim_lt x 4
  have l5 := lim_lt x 5
  rw [joinE6]
  generalize lim x 0 = x0 at *
  generalize lim x 1 = x1 at *
  generalize lim x 2 = x2 at *
  generalize lim x 3 = x3 at *
  generalize lim x 4 = x4 at *
  generalize lim x 5 = x5 at *
  omega
def tShl4 : Tree := (.lett 1 (.int .u64) (.bin .shl .u64 (.limb 0 0) (.lit 4))
(.lett 2 (.int .u64) (.bin .shl .u64 (.limb 0 1) (.lit 4))
(.lett 387 (.int .u64) (.bin .shr .u64 (.limb 0 0) (.lit 60))
(.lett 435 (.int .u64) (.bin .or .u64 (.var 2) (.var 387))
(.lett 579 (.int .u64) (.bin .shl .u64 (.limb 0 2) (.lit 4))
(.lett 964 (.int .u64) (.bin .shr .u64 (.limb 0 1) (.lit 60))
(.lett 1012 (.int .u64) (.bin .or .u64 (.var 579) (.var 964))
(.lett 1156 (.int .u64) (.bin .shl .u64 (.limb 0 3) (.lit 4))
(.lett 1541 (.int .u64) (.bin .shr .u64 (.limb 0 2) (.lit 60))
(.lett 1589 (.int .u64) (.bin .or .u64 (.var 1156) (.var 1541))
(.lett 1733 (.int .u64) (.bin .shl .u64 (.limb 0 4) (.lit 4))
(.lett 2118 (.int .u64) (.bin .shr .u64 (.limb 0 3) (.lit 60))
(.lett 2166 (.int .u64) (.bin .or .u64 (.var 1733) (.var 2118))
(.lett 2310 (.int .u64) (.bin .shl .u64 (.limb 0 5) (.lit 4))
(.lett 2695 (.int .u64) (.bin .shr .u64 (.limb 0 4) (.lit 60))
(.lett 2743 (.int .u64) (.bin .or .u64 (.var 2310) (.var 2695))
(.lett 2887 .num (.join [(.var 1), (.var 435), (.var 1012), (.var 1589), (.var 2166), (.var 2743)])
(.ret [(.var 2887)]))))))))))))))))))
theorem law_shl4 (f : FuncId) (e : Nat → Int) (hk : kkHas [.num] [e 0]) (hp : (kShl4 f).pre [e 0]) : tShl4.says [] ⟨fun ys => ys = (kShl4 f).sem [e 0], []⟩ e := by
  have h0 := hk.1
  have hp : e 0 < 2 ^ 380 := hp
  rw [show (2 : Int) ^ 380 = 2462625387274654950767440006258975862817483704404090416746768337765357610718575663213391640930307227550414249394176 by decide +kernel] at hp
  have z := U_lim e
  intro s0 _ s1 _ r1 _ o1 _ s2 _ r2 _ o2 _ s3 _ r3 _ o3 _ s4 _ r4 _ o4 _ s5 _ r5 _ o5 _ oj _
  show [e 2887] = [16 * e 0]
  rw [show e 2887 = _ from oj]
  exact congrArg (fun x => [x]) (hex_join h0 hp (shl_4 s0) (or_4 o1 s1 r1 (z _ _) (z _ _)) (or_4 o2 s2 r2 (z _ _) (z _ _)) (or_4 o3 s3 r3 (z _ _) (z _ _)) (or_4 o4 s4 r4 (z _ _) (z _ _)) (or_4 o5 s5 r5 (z _ _) (z _ _)))
def g1X : Int := 3685416753713387016781088315183077757961620795782546409894578378688607592378376318836054947676345821548104185464507
def g1Y : Int := 1339506544944476473020471379941921221584933875938349620426543736416511423956333506472724655353366534992391756441569
def kGen1 (f : FuncId) : K := { fn := f, ext := false, ins := [], outs := [.agg lsPl], pre := fun _ => True, sem := fun _ => [g1X, g1Y, 0] }
def tGen1 : Tree := (.req 0 [(.lit 49)]
(.req 1 [(.lit 0)]
(.lett 0 .num (.app 1 0 [(.lit 0)])
(.lett 1 (.int .u64) (.bin .or .u64 (.limb 0 0) (.lit 1))
(.req 0 [(.lit 55)]
(.lett 2 .num (.join [(.var 1), (.limb 0 1), (.limb 0 2), (.limb 0 3), (.limb 0 4), (.limb 0 5)])
(.req 1 [(.var 2)]
(.lett 3 .num (.app 1 0 [(.var 2)])
(.lett 4 (.int .u64) (.bin .or .u64 (.limb 3 0) (.lit 7))
(.req 0 [(.lit 102)]
(.lett 5 .num (.join [(.var 4), (.limb 3 1), (.limb 3 2), (.limb 3 3), (.limb 3 4), (.limb 3 5)])
(.req 1 [(.var 5)]
(.lett 6 .num (.app 1 0 [(.var 5)])
(.lett 7 (.int .u64) (.bin .or .u64 (.limb 6 0) (.lit 15))
(.req 0 [(.lit 49)]
(.lett 8 .num (.join [(.var 7), (.limb 6 1), (.limb 6 2), (.limb 6 3), (.limb 6 4), (.limb 6 5)])
(.req 1 [(.var 8)]
(.lett 9 .num (.app 1 0 [(.var 8)])
(.lett 10 (.int .u64) (.bin .or .u64 (.limb 9 0) (.lit 1))
(.req 0 [(.lit 100)]
(.lett 11 .num (.join [(.var 10), (.limb 9 1), (.limb 9 2), (.limb 9 3), (.limb 9 4), (.limb 9 5)])
(.req 1 [(.var 11)]
(.lett 12 .num (.app 1 0 [(.var 11)])
(.lett 13 (.int .u64) (.bin .or .u64 (.limb 12 0) (.lit 13))
(.req 0 [(.lit 51)]
(.lett 14 .num (.join [(.var 13), (.limb 12 1), (.limb 12 2), (.limb 12 3), (.limb 12 4), (.limb 12 5)])
(.req 1 [(.var 14)]
(.lett 15 .num (.app 1 0 [(.var 14)])
(.lett 16 (.int .u64) (.bin .or .u64 (.limb 15 0) (.lit 3))
(.req 0 [(.lit 97)]
(.lett 17 .num (.join [(.var 16), (.limb 15 1), (.limb 15 2), (.limb 15 3), (.limb 15 4), (.limb 15 5)])
(.req 1 [(.var 17)]
(.lett 18 .num (.app 1 0 [(.var 17)])
(.lett 19 (.int .u64) (.bin .or .u64 (.limb 18 0) (.lit 10))
(.req 0 [(.lit 55)]
(.lett 20 .num (.join [(.var 19), (.limb 18 1), (.limb 18 2), (.limb 18 3), (.limb 18 4), (.limb 18 5)])
(.req 1 [(.var 20)]
(.lett 21 .num (.app 1 0 [(.var 20)])
(.lett 22 (.int .u64) (.bin .or .u64 (.limb 21 0) (.lit 7))
(.req 0 [(.lit 51)]
(.lett 23 .num (.join [(.var 22), (.limb 21 1), (.limb 21 2), (.limb 21 3), (.limb 21 4), (.limb 21 5)])
(.req 1 [(.var 23)]
(.lett 24 .num (.app 1 0 [(.var 23)])
(.lett 25 (.int .u64) (.bin .or .u64 (.limb 24 0) (.lit 3))
(.req 0 [(.lit 49)]
(.lett 26 .num (.join [(.var 25), (.limb 24 1), (.limb 24 2), (.limb 24 3), (.limb 24 4), (.limb 24 5)])
(.req 1 [(.var 26)]
(.lett 27 .num (.app 1 0 [(.var 26)])
(.lett 28 (.int .u64) (.bin .or .u64 (.limb 27 0) (.lit 1))
(.req 0 [(.lit 57)]
(.lett 29 .num (.join [(.var 28), (.limb 27 1), (.limb 27 2), (.limb 27 3), (.limb 27 4), (.limb 27 5)])
(.req 1 [(.var 29)]
(.lett 30 .num (.app 1 0 [(.var 29)])
(.lett 31 (.int .u64) (.bin .or .u64 (.limb 30 0) (.lit 9))
(.req 0 [(.lit 55)]
(.lett 32 .num (.join [(.var 31), (.limb 30 1), (.limb 30 2), (.limb 30 3), (.limb 30 4), (.limb 30 5)])
(.req 1 [(.var 32)]
(.lett 33 .num (.app 1 0 [(.var 32)])
(.lett 34 (.int .u64) (.bin .or .u64 (.limb 33 0) (.lit 7))
(.req 0 [(.lit 100)]
(.lett 35 .num (.join [(.var 34), (.limb 33 1), (.limb 33 2), (.limb 33 3), (.limb 33 4), (.limb 33 5)])
(.req 1 [(.var 35)]
(.lett 36 .num (.app 1 0 [(.var 35)])
(.lett 37 (.int .u64) (.bin .or .u64 (.limb 36 0) (.lit 13))
(.req 0 [(.lit 55)]
(.lett 38 .num (.join [(.var 37), (.limb 36 1), (.limb 36 2), (.limb 36 3), (.limb 36 4), (.limb 36 5)])
(.req 1 [(.var 38)]
(.lett 39 .num (.app 1 0 [(.var 38)])
(.lett 40 (.int .u64) (.bin .or .u64 (.limb 39 0) (.lit 7))
(.req 0 [(.lit 57)]
(.lett 41 .num (.join [(.var 40), (.limb 39 1), (.limb 39 2), (.limb 39 3), (.limb 39 4), (.limb 39 5)])
(.req 1 [(.var 41)]
(.lett 42 .num (.app 1 0 [(.var 41)])
(.lett 43 (.int .u64) (.bin .or .u64 (.limb 42 0) (.lit 9))
(.req 0 [(.lit 52)]
(.lett 44 .num (.join [(.var 43), (.limb 42 1), (.limb 42 2), (.limb 42 3), (.limb 42 4), (.limb 42 5)])
(.req 1 [(.var 44)]
(.lett 45 .num (.app 1 0 [(.var 44)])
(.lett 46 (.int .u64) (.bin .or .u64 (.limb 45 0) (.lit 4))
(.req 0 [(.lit 50)]
(.lett 47 .num (.join [(.var 46), (.limb 45 1), (.limb 45 2), (.limb 45 3), (.limb 45 4), (.limb 45 5)])
(.req 1 [(.var 47)]
(.lett 48 .num (.app 1 0 [(.var 47)])
(.lett 49 (.int .u64) (.bin .or .u64 (.limb 48 0) (.lit 2))
(.req 0 [(.lit 54)]
(.lett 50 .num (.join [(.var 49), (.limb 48 1), (.limb 48 2), (.limb 48 3), (.limb 48 4), (.limb 48 5)])
(.req 1 [(.var 50)]
(.lett 51 .num (.app 1 0 [(.var 50)])
(.lett 52 (.int .u64) (.bin .or .u64 (.limb 51 0) (.lit 6))
(.req 0 [(.lit 57)]
(.lett 53 .num (.join [(.var 52), (.limb 51 1), (.limb 51 2), (.limb 51 3), (.limb 51 4), (.limb 51 5)])
(.req 1 [(.var 53)]
(.lett 54 .num (.app 1 0 [(.var 53)])
(.lett 55 (.int .u64) (.bin .or .u64 (.limb 54 0) (.lit 9))
(.req 0 [(.lit 53)]
(.lett 56 .num (.join [(.var 55), (.limb 54 1), (.limb 54 2), (.limb 54 3), (.limb 54 4), (.limb 54 5)])
(.req 1 [(.var 56)]
(.lett 57 .num (.app 1 0 [(.var 56)])
(.lett 58 (.int .u64) (.bin .or .u64 (.limb 57 0) (.lit 5))
(.req 0 [(.lit 54)]
(.lett 59 .num (.join [(.var 58), (.limb 57 1), (.limb 57 2), (.limb 57 3), (.limb 57 4), (.limb 57 5)])
(.req 1 [(.var 59)]
(.lett 60 .num (.app 1 0 [(.var 59)])
(.lett 61 (.int .u64) (.bin .or .u64 (.limb 60 0) (.lit 6))
(.req 0 [(.lit 51)]
(.lett 62 .num (.join [(.var 61), (.limb 60 1), (.limb 60 2), (.limb 60 3), (.limb 60 4), (.limb 60 5)])
(.req 1 [(.var 62)]
(.lett 63 .num (.app 1 0 [(.var 62)])
(.lett 64 (.int .u64) (.bin .or .u64 (.limb 63 0) (.lit 3))
(.req 0 [(.lit 56)]
(.lett 65 .num (.join [(.var 64), (.limb 63 1), (.limb 63 2), (.limb 63 3), (.limb 63 4), (.limb 63 5)])
(.req 1 [(.var 65)]
(.lett 66 .num (.app 1 0 [(.var 65)])
(.lett 67 (.int .u64) (.bin .or .u64 (.limb 66 0) (.lit 8))
(.req 0 [(.lit 99)]
(.lett 68 .num (.join [(.var 67), (.limb 66 1), (.limb 66 2), (.limb 66 3), (.limb 66 4), (.limb 66 5)])
(.req 1 [(.var 68)]
(.lett 69 .num (.app 1 0 [(.var 68)])
(.lett 70 (.int .u64) (.bin .or .u64 (.limb 69 0) (.lit 12))
(.req 0 [(.lit 52)]
(.lett 71 .num (.join [(.var 70), (.limb 69 1), (.limb 69 2), (.limb 69 3), (.limb 69 4), (.limb 69 5)])
(.req 1 [(.var 71)]
(.lett 72 .num (.app 1 0 [(.var 71)])
(.lett 73 (.int .u64) (.bin .or .u64 (.limb 72 0) (.lit 4))
(.req 0 [(.lit 102)]
(.lett 74 .num (.join [(.var 73), (.limb 72 1), (.limb 72 2), (.limb 72 3), (.limb 72 4), (.limb 72 5)])
(.req 1 [(.var 74)]
(.lett 75 .num (.app 1 0 [(.var 74)])
(.lett 76 (.int .u64) (.bin .or .u64 (.limb 75 0) (.lit 15))
(.req 0 [(.lit 97)]
(.lett 77 .num (.join [(.var 76), (.limb 75 1), (.limb 75 2), (.limb 75 3), (.limb 75 4), (.limb 75 5)])
(.req 1 [(.var 77)]
(.lett 78 .num (.app 1 0 [(.var 77)])
(.lett 79 (.int .u64) (.bin .or .u64 (.limb 78 0) (.lit 10))
(.req 0 [(.lit 57)]
(.lett 80 .num (.join [(.var 79), (.limb 78 1), (.limb 78 2), (.limb 78 3), (.limb 78 4), (.limb 78 5)])
(.req 1 [(.var 80)]
(.lett 81 .num (.app 1 0 [(.var 80)])
(.lett 82 (.int .u64) (.bin .or .u64 (.limb 81 0) (.lit 9))
(.req 0 [(.lit 97)]
(.lett 83 .num (.join [(.var 82), (.limb 81 1), (.limb 81 2), (.limb 81 3), (.limb 81 4), (.limb 81 5)])
(.req 1 [(.var 83)]
(.lett 84 .num (.app 1 0 [(.var 83)])
(.lett 85 (.int .u64) (.bin .or .u64 (.limb 84 0) (.lit 10))
(.req 0 [(.lit 99)]
(.lett 86 .num (.join [(.var 85), (.limb 84 1), (.limb 84 2), (.limb 84 3), (.limb 84 4), (.limb 84 5)])
(.req 1 [(.var 86)]
(.lett 87 .num (.app 1 0 [(.var 86)])
(.lett 88 (.int .u64) (.bin .or .u64 (.limb 87 0) (.lit 12))
(.req 0 [(.lit 48)]
(.lett 89 .num (.join [(.var 88), (.limb 87 1), (.limb 87 2), (.limb 87 3), (.limb 87 4), (.limb 87 5)])
(.req 1 [(.var 89)]
(.lett 90 .num (.app 1 0 [(.var 89)])
(.lett 91 (.int .u64) (.bin .or .u64 (.limb 90 0) (.lit 0))
(.req 0 [(.lit 102)]
(.lett 92 .num (.join [(.var 91), (.limb 90 1), (.limb 90 2), (.limb 90 3), (.limb 90 4), (.limb 90 5)])
(.req 1 [(.var 92)]
(.lett 93 .num (.app 1 0 [(.var 92)])
(.lett 94 (.int .u64) (.bin .or .u64 (.limb 93 0) (.lit 15))
(.req 0 [(.lit 99)]
(.lett 95 .num (.join [(.var 94), (.limb 93 1), (.limb 93 2), (.limb 93 3), (.limb 93 4), (.limb 93 5)])
(.req 1 [(.var 95)]
(.lett 96 .num (.app 1 0 [(.var 95)])
(.lett 97 (.int .u64) (.bin .or .u64 (.limb 96 0) (.lit 12))
(.req 0 [(.lit 51)]
(.lett 98 .num (.join [(.var 97), (.limb 96 1), (.limb 96 2), (.limb 96 3), (.limb 96 4), (.limb 96 5)])
(.req 1 [(.var 98)]
(.lett 99 .num (.app 1 0 [(.var 98)])
(.lett 100 (.int .u64) (.bin .or .u64 (.limb 99 0) (.lit 3))
(.req 0 [(.lit 54)]
(.lett 101 .num (.join [(.var 100), (.limb 99 1), (.limb 99 2), (.limb 99 3), (.limb 99 4), (.limb 99 5)])
(.req 1 [(.var 101)]
(.lett 102 .num (.app 1 0 [(.var 101)])
(.lett 103 (.int .u64) (.bin .or .u64 (.limb 102 0) (.lit 6))
(.req 0 [(.lit 56)]
(.lett 104 .num (.join [(.var 103), (.limb 102 1), (.limb 102 2), (.limb 102 3), (.limb 102 4), (.limb 102 5)])
(.req 1 [(.var 104)]
(.lett 105 .num (.app 1 0 [(.var 104)])
(.lett 106 (.int .u64) (.bin .or .u64 (.limb 105 0) (.lit 8))
(.req 0 [(.lit 56)]
(.lett 107 .num (.join [(.var 106), (.limb 105 1), (.limb 105 2), (.limb 105 3), (.limb 105 4), (.limb 105 5)])
(.req 1 [(.var 107)]
(.lett 108 .num (.app 1 0 [(.var 107)])
(.lett 109 (.int .u64) (.bin .or .u64 (.limb 108 0) (.lit 8))
(.req 0 [(.lit 99)]
(.lett 110 .num (.join [(.var 109), (.limb 108 1), (.limb 108 2), (.limb 108 3), (.limb 108 4), (.limb 108 5)])
(.req 1 [(.var 110)]
(.lett 111 .num (.app 1 0 [(.var 110)])
(.lett 112 (.int .u64) (.bin .or .u64 (.limb 111 0) (.lit 12))
(.req 0 [(.lit 52)]
(.lett 113 .num (.join [(.var 112), (.limb 111 1), (.limb 111 2), (.limb 111 3), (.limb 111 4), (.limb 111 5)])
(.req 1 [(.var 113)]
(.lett 114 .num (.app 1 0 [(.var 113)])
(.lett 115 (.int .u64) (.bin .or .u64 (.limb 114 0) (.lit 4))
(.req 0 [(.lit 102)]
(.lett 116 .num (.join [(.var 115), (.limb 114 1), (.limb 114 2), (.limb 114 3), (.limb 114 4), (.limb 114 5)])
(.req 1 [(.var 116)]
(.lett 117 .num (.app 1 0 [(.var 116)])
(.lett 118 (.int .u64) (.bin .or .u64 (.limb 117 0) (.lit 15))
(.req 0 [(.lit 57)]
(.lett 119 .num (.join [(.var 118), (.limb 117 1), (.limb 117 2), (.limb 117 3), (.limb 117 4), (.limb 117 5)])
(.req 1 [(.var 119)]
(.lett 120 .num (.app 1 0 [(.var 119)])
(.lett 121 (.int .u64) (.bin .or .u64 (.limb 120 0) (.lit 9))
(.req 0 [(.lit 55)]
(.lett 122 .num (.join [(.var 121), (.limb 120 1), (.limb 120 2), (.limb 120 3), (.limb 120 4), (.limb 120 5)])
(.req 1 [(.var 122)]
(.lett 123 .num (.app 1 0 [(.var 122)])
(.lett 124 (.int .u64) (.bin .or .u64 (.limb 123 0) (.lit 7))
(.req 0 [(.lit 55)]
(.lett 125 .num (.join [(.var 124), (.limb 123 1), (.limb 123 2), (.limb 123 3), (.limb 123 4), (.limb 123 5)])
(.req 1 [(.var 125)]
(.lett 126 .num (.app 1 0 [(.var 125)])
(.lett 127 (.int .u64) (.bin .or .u64 (.limb 126 0) (.lit 7))
(.req 0 [(.lit 52)]
(.lett 128 .num (.join [(.var 127), (.limb 126 1), (.limb 126 2), (.limb 126 3), (.limb 126 4), (.limb 126 5)])
(.req 1 [(.var 128)]
(.lett 129 .num (.app 1 0 [(.var 128)])
(.lett 130 (.int .u64) (.bin .or .u64 (.limb 129 0) (.lit 4))
(.req 0 [(.lit 98)]
(.lett 131 .num (.join [(.var 130), (.limb 129 1), (.limb 129 2), (.limb 129 3), (.limb 129 4), (.limb 129 5)])
(.req 1 [(.var 131)]
(.lett 132 .num (.app 1 0 [(.var 131)])
(.lett 133 (.int .u64) (.bin .or .u64 (.limb 132 0) (.lit 11))
(.req 0 [(.lit 57)]
(.lett 134 .num (.join [(.var 133), (.limb 132 1), (.limb 132 2), (.limb 132 3), (.limb 132 4), (.limb 132 5)])
(.req 1 [(.var 134)]
(.lett 135 .num (.app 1 0 [(.var 134)])
(.lett 136 (.int .u64) (.bin .or .u64 (.limb 135 0) (.lit 9))
(.req 0 [(.lit 48)]
(.lett 137 .num (.join [(.var 136), (.limb 135 1), (.limb 135 2), (.limb 135 3), (.limb 135 4), (.limb 135 5)])
(.req 1 [(.var 137)]
(.lett 138 .num (.app 1 0 [(.var 137)])
(.lett 139 (.int .u64) (.bin .or .u64 (.limb 138 0) (.lit 0))
(.req 0 [(.lit 53)]
(.lett 140 .num (.join [(.var 139), (.limb 138 1), (.limb 138 2), (.limb 138 3), (.limb 138 4), (.limb 138 5)])
(.req 1 [(.var 140)]
(.lett 141 .num (.app 1 0 [(.var 140)])
(.lett 142 (.int .u64) (.bin .or .u64 (.limb 141 0) (.lit 5))
(.req 0 [(.lit 97)]
(.lett 143 .num (.join [(.var 142), (.limb 141 1), (.limb 141 2), (.limb 141 3), (.limb 141 4), (.limb 141 5)])
(.req 1 [(.var 143)]
(.lett 144 .num (.app 1 0 [(.var 143)])
(.lett 145 (.int .u64) (.bin .or .u64 (.limb 144 0) (.lit 10))
(.req 0 [(.lit 49)]
(.lett 146 .num (.join [(.var 145), (.limb 144 1), (.limb 144 2), (.limb 144 3), (.limb 144 4), (.limb 144 5)])
(.req 1 [(.var 146)]
(.lett 147 .num (.app 1 0 [(.var 146)])
(.lett 148 (.int .u64) (.bin .or .u64 (.limb 147 0) (.lit 1))
(.req 0 [(.lit 52)]
(.lett 149 .num (.join [(.var 148), (.limb 147 1), (.limb 147 2), (.limb 147 3), (.limb 147 4), (.limb 147 5)])
(.req 1 [(.var 149)]
(.lett 150 .num (.app 1 0 [(.var 149)])
(.lett 151 (.int .u64) (.bin .or .u64 (.limb 150 0) (.lit 4))
(.req 0 [(.lit 101)]
(.lett 152 .num (.join [(.var 151), (.limb 150 1), (.limb 150 2), (.limb 150 3), (.limb 150 4), (.limb 150 5)])
(.req 1 [(.var 152)]
(.lett 153 .num (.app 1 0 [(.var 152)])
(.lett 154 (.int .u64) (.bin .or .u64 (.limb 153 0) (.lit 14))
(.req 0 [(.lit 51)]
(.lett 155 .num (.join [(.var 154), (.limb 153 1), (.limb 153 2), (.limb 153 3), (.limb 153 4), (.limb 153 5)])
(.req 1 [(.var 155)]
(.lett 156 .num (.app 1 0 [(.var 155)])
(.lett 157 (.int .u64) (.bin .or .u64 (.limb 156 0) (.lit 3))
(.req 0 [(.lit 97)]
(.lett 158 .num (.join [(.var 157), (.limb 156 1), (.limb 156 2), (.limb 156 3), (.limb 156 4), (.limb 156 5)])
(.req 1 [(.var 158)]
(.lett 159 .num (.app 1 0 [(.var 158)])
(.lett 160 (.int .u64) (.bin .or .u64 (.limb 159 0) (.lit 10))
(.req 0 [(.lit 51)]
(.lett 161 .num (.join [(.var 160), (.limb 159 1), (.limb 159 2), (.limb 159 3), (.limb 159 4), (.limb 159 5)])
(.req 1 [(.var 161)]
(.lett 162 .num (.app 1 0 [(.var 161)])
(.lett 163 (.int .u64) (.bin .or .u64 (.limb 162 0) (.lit 3))
(.req 0 [(.lit 102)]
(.lett 164 .num (.join [(.var 163), (.limb 162 1), (.limb 162 2), (.limb 162 3), (.limb 162 4), (.limb 162 5)])
(.req 1 [(.var 164)]
(.lett 165 .num (.app 1 0 [(.var 164)])
(.lett 166 (.int .u64) (.bin .or .u64 (.limb 165 0) (.lit 15))
(.req 0 [(.lit 49)]
(.lett 167 .num (.join [(.var 166), (.limb 165 1), (.limb 165 2), (.limb 165 3), (.limb 165 4), (.limb 165 5)])
(.req 1 [(.var 167)]
(.lett 168 .num (.app 1 0 [(.var 167)])
(.lett 169 (.int .u64) (.bin .or .u64 (.limb 168 0) (.lit 1))
(.req 0 [(.lit 55)]
(.lett 170 .num (.join [(.var 169), (.limb 168 1), (.limb 168 2), (.limb 168 3), (.limb 168 4), (.limb 168 5)])
(.req 1 [(.var 170)]
(.lett 171 .num (.app 1 0 [(.var 170)])
(.lett 172 (.int .u64) (.bin .or .u64 (.limb 171 0) (.lit 7))
(.req 0 [(.lit 49)]
(.lett 173 .num (.join [(.var 172), (.limb 171 1), (.limb 171 2), (.limb 171 3), (.limb 171 4), (.limb 171 5)])
(.req 1 [(.var 173)]
(.lett 174 .num (.app 1 0 [(.var 173)])
(.lett 175 (.int .u64) (.bin .or .u64 (.limb 174 0) (.lit 1))
(.req 0 [(.lit 98)]
(.lett 176 .num (.join [(.var 175), (.limb 174 1), (.limb 174 2), (.limb 174 3), (.limb 174 4), (.limb 174 5)])
(.req 1 [(.var 176)]
(.lett 177 .num (.app 1 0 [(.var 176)])
(.lett 178 (.int .u64) (.bin .or .u64 (.limb 177 0) (.lit 11))
(.req 0 [(.lit 97)]
(.lett 179 .num (.join [(.var 178), (.limb 177 1), (.limb 177 2), (.limb 177 3), (.limb 177 4), (.limb 177 5)])
(.req 1 [(.var 179)]
(.lett 180 .num (.app 1 0 [(.var 179)])
(.lett 181 (.int .u64) (.bin .or .u64 (.limb 180 0) (.lit 10))
(.req 0 [(.lit 99)]
(.lett 182 .num (.join [(.var 181), (.limb 180 1), (.limb 180 2), (.limb 180 3), (.limb 180 4), (.limb 180 5)])
(.req 1 [(.var 182)]
(.lett 183 .num (.app 1 0 [(.var 182)])
(.lett 184 (.int .u64) (.bin .or .u64 (.limb 183 0) (.lit 12))
(.req 0 [(.lit 53)]
(.lett 185 .num (.join [(.var 184), (.limb 183 1), (.limb 183 2), (.limb 183 3), (.limb 183 4), (.limb 183 5)])
(.req 1 [(.var 185)]
(.lett 186 .num (.app 1 0 [(.var 185)])
(.lett 187 (.int .u64) (.bin .or .u64 (.limb 186 0) (.lit 5))
(.req 0 [(.lit 56)]
(.lett 188 .num (.join [(.var 187), (.limb 186 1), (.limb 186 2), (.limb 186 3), (.limb 186 4), (.limb 186 5)])
(.req 1 [(.var 188)]
(.lett 189 .num (.app 1 0 [(.var 188)])
(.lett 190 (.int .u64) (.bin .or .u64 (.limb 189 0) (.lit 8))
(.req 0 [(.lit 54)]
(.lett 191 .num (.join [(.var 190), (.limb 189 1), (.limb 189 2), (.limb 189 3), (.limb 189 4), (.limb 189 5)])
(.req 1 [(.var 191)]
(.lett 192 .num (.app 1 0 [(.var 191)])
(.lett 193 (.int .u64) (.bin .or .u64 (.limb 192 0) (.lit 6))
(.req 0 [(.lit 99)]
(.lett 194 .num (.join [(.var 193), (.limb 192 1), (.limb 192 2), (.limb 192 3), (.limb 192 4), (.limb 192 5)])
(.req 1 [(.var 194)]
(.lett 195 .num (.app 1 0 [(.var 194)])
(.lett 196 (.int .u64) (.bin .or .u64 (.limb 195 0) (.lit 12))
(.req 0 [(.lit 53)]
(.lett 197 .num (.join [(.var 196), (.limb 195 1), (.limb 195 2), (.limb 195 3), (.limb 195 4), (.limb 195 5)])
(.req 1 [(.var 197)]
(.lett 198 .num (.app 1 0 [(.var 197)])
(.lett 199 (.int .u64) (.bin .or .u64 (.limb 198 0) (.lit 5))
(.req 0 [(.lit 53)]
(.lett 200 .num (.join [(.var 199), (.limb 198 1), (.limb 198 2), (.limb 198 3), (.limb 198 4), (.limb 198 5)])
(.req 1 [(.var 200)]
(.lett 201 .num (.app 1 0 [(.var 200)])
(.lett 202 (.int .u64) (.bin .or .u64 (.limb 201 0) (.lit 5))
(.req 0 [(.lit 101)]
(.lett 203 .num (.join [(.var 202), (.limb 201 1), (.limb 201 2), (.limb 201 3), (.limb 201 4), (.limb 201 5)])
(.req 1 [(.var 203)]
(.lett 204 .num (.app 1 0 [(.var 203)])
(.lett 205 (.int .u64) (.bin .or .u64 (.limb 204 0) (.lit 14))
(.req 0 [(.lit 56)]
(.lett 206 .num (.join [(.var 205), (.limb 204 1), (.limb 204 2), (.limb 204 3), (.limb 204 4), (.limb 204 5)])
(.req 1 [(.var 206)]
(.lett 207 .num (.app 1 0 [(.var 206)])
(.lett 208 (.int .u64) (.bin .or .u64 (.limb 207 0) (.lit 8))
(.req 0 [(.lit 51)]
(.lett 209 .num (.join [(.var 208), (.limb 207 1), (.limb 207 2), (.limb 207 3), (.limb 207 4), (.limb 207 5)])
(.req 1 [(.var 209)]
(.lett 210 .num (.app 1 0 [(.var 209)])
(.lett 211 (.int .u64) (.bin .or .u64 (.limb 210 0) (.lit 3))
(.req 0 [(.lit 102)]
(.lett 212 .num (.join [(.var 211), (.limb 210 1), (.limb 210 2), (.limb 210 3), (.limb 210 4), (.limb 210 5)])
(.req 1 [(.var 212)]
(.lett 213 .num (.app 1 0 [(.var 212)])
(.lett 214 (.int .u64) (.bin .or .u64 (.limb 213 0) (.lit 15))
(.req 0 [(.lit 102)]
(.lett 215 .num (.join [(.var 214), (.limb 213 1), (.limb 213 2), (.limb 213 3), (.limb 213 4), (.limb 213 5)])
(.req 1 [(.var 215)]
(.lett 216 .num (.app 1 0 [(.var 215)])
(.lett 217 (.int .u64) (.bin .or .u64 (.limb 216 0) (.lit 15))
(.req 0 [(.lit 57)]
(.lett 218 .num (.join [(.var 217), (.limb 216 1), (.limb 216 2), (.limb 216 3), (.limb 216 4), (.limb 216 5)])
(.req 1 [(.var 218)]
(.lett 219 .num (.app 1 0 [(.var 218)])
(.lett 220 (.int .u64) (.bin .or .u64 (.limb 219 0) (.lit 9))
(.req 0 [(.lit 55)]
(.lett 221 .num (.join [(.var 220), (.limb 219 1), (.limb 219 2), (.limb 219 3), (.limb 219 4), (.limb 219 5)])
(.req 1 [(.var 221)]
(.lett 222 .num (.app 1 0 [(.var 221)])
(.lett 223 (.int .u64) (.bin .or .u64 (.limb 222 0) (.lit 7))
(.req 0 [(.lit 97)]
(.lett 224 .num (.join [(.var 223), (.limb 222 1), (.limb 222 2), (.limb 222 3), (.limb 222 4), (.limb 222 5)])
(.req 1 [(.var 224)]
(.lett 225 .num (.app 1 0 [(.var 224)])
(.lett 226 (.int .u64) (.bin .or .u64 (.limb 225 0) (.lit 10))
(.req 0 [(.lit 49)]
(.lett 227 .num (.join [(.var 226), (.limb 225 1), (.limb 225 2), (.limb 225 3), (.limb 225 4), (.limb 225 5)])
(.req 1 [(.var 227)]
(.lett 228 .num (.app 1 0 [(.var 227)])
(.lett 229 (.int .u64) (.bin .or .u64 (.limb 228 0) (.lit 1))
(.req 0 [(.lit 97)]
(.lett 230 .num (.join [(.var 229), (.limb 228 1), (.limb 228 2), (.limb 228 3), (.limb 228 4), (.limb 228 5)])
(.req 1 [(.var 230)]
(.lett 231 .num (.app 1 0 [(.var 230)])
(.lett 232 (.int .u64) (.bin .or .u64 (.limb 231 0) (.lit 10))
(.req 0 [(.lit 101)]
(.lett 233 .num (.join [(.var 232), (.limb 231 1), (.limb 231 2), (.limb 231 3), (.limb 231 4), (.limb 231 5)])
(.req 1 [(.var 233)]
(.lett 234 .num (.app 1 0 [(.var 233)])
(.lett 235 (.int .u64) (.bin .or .u64 (.limb 234 0) (.lit 14))
(.req 0 [(.lit 102)]
(.lett 236 .num (.join [(.var 235), (.limb 234 1), (.limb 234 2), (.limb 234 3), (.limb 234 4), (.limb 234 5)])
(.req 1 [(.var 236)]
(.lett 237 .num (.app 1 0 [(.var 236)])
(.lett 238 (.int .u64) (.bin .or .u64 (.limb 237 0) (.lit 15))
(.req 0 [(.lit 102)]
(.lett 239 .num (.join [(.var 238), (.limb 237 1), (.limb 237 2), (.limb 237 3), (.limb 237 4), (.limb 237 5)])
(.req 1 [(.var 239)]
(.lett 240 .num (.app 1 0 [(.var 239)])
(.lett 241 (.int .u64) (.bin .or .u64 (.limb 240 0) (.lit 15))
(.req 0 [(.lit 98)]
(.lett 242 .num (.join [(.var 241), (.limb 240 1), (.limb 240 2), (.limb 240 3), (.limb 240 4), (.limb 240 5)])
(.req 1 [(.var 242)]
(.lett 243 .num (.app 1 0 [(.var 242)])
(.lett 244 (.int .u64) (.bin .or .u64 (.limb 243 0) (.lit 11))
(.req 0 [(.lit 51)]
(.lett 245 .num (.join [(.var 244), (.limb 243 1), (.limb 243 2), (.limb 243 3), (.limb 243 4), (.limb 243 5)])
(.req 1 [(.var 245)]
(.lett 246 .num (.app 1 0 [(.var 245)])
(.lett 247 (.int .u64) (.bin .or .u64 (.limb 246 0) (.lit 3))
(.req 0 [(.lit 97)]
(.lett 248 .num (.join [(.var 247), (.limb 246 1), (.limb 246 2), (.limb 246 3), (.limb 246 4), (.limb 246 5)])
(.req 1 [(.var 248)]
(.lett 249 .num (.app 1 0 [(.var 248)])
(.lett 250 (.int .u64) (.bin .or .u64 (.limb 249 0) (.lit 10))
(.req 0 [(.lit 102)]
(.lett 251 .num (.join [(.var 250), (.limb 249 1), (.limb 249 2), (.limb 249 3), (.limb 249 4), (.limb 249 5)])
(.req 1 [(.var 251)]
(.lett 252 .num (.app 1 0 [(.var 251)])
(.lett 253 (.int .u64) (.bin .or .u64 (.limb 252 0) (.lit 15))
(.req 0 [(.lit 48)]
(.lett 254 .num (.join [(.var 253), (.limb 252 1), (.limb 252 2), (.limb 252 3), (.limb 252 4), (.limb 252 5)])
(.req 1 [(.var 254)]
(.lett 255 .num (.app 1 0 [(.var 254)])
(.lett 256 (.int .u64) (.bin .or .u64 (.limb 255 0) (.lit 0))
(.req 0 [(.lit 48)]
(.lett 257 .num (.join [(.var 256), (.limb 255 1), (.limb 255 2), (.limb 255 3), (.limb 255 4), (.limb 255 5)])
(.req 1 [(.var 257)]
(.lett 258 .num (.app 1 0 [(.var 257)])
(.lett 259 (.int .u64) (.bin .or .u64 (.limb 258 0) (.lit 0))
(.req 0 [(.lit 97)]
(.lett 260 .num (.join [(.var 259), (.limb 258 1), (.limb 258 2), (.limb 258 3), (.limb 258 4), (.limb 258 5)])
(.req 1 [(.var 260)]
(.lett 261 .num (.app 1 0 [(.var 260)])
(.lett 262 (.int .u64) (.bin .or .u64 (.limb 261 0) (.lit 10))
(.req 0 [(.lit 100)]
(.lett 263 .num (.join [(.var 262), (.limb 261 1), (.limb 261 2), (.limb 261 3), (.limb 261 4), (.limb 261 5)])
(.req 1 [(.var 263)]
(.lett 264 .num (.app 1 0 [(.var 263)])
(.lett 265 (.int .u64) (.bin .or .u64 (.limb 264 0) (.lit 13))
(.req 0 [(.lit 98)]
(.lett 266 .num (.join [(.var 265), (.limb 264 1), (.limb 264 2), (.limb 264 3), (.limb 264 4), (.limb 264 5)])
(.req 1 [(.var 266)]
(.lett 267 .num (.app 1 0 [(.var 266)])
(.lett 268 (.int .u64) (.bin .or .u64 (.limb 267 0) (.lit 11))
(.req 0 [(.lit 50)]
(.lett 269 .num (.join [(.var 268), (.limb 267 1), (.limb 267 2), (.limb 267 3), (.limb 267 4), (.limb 267 5)])
(.req 1 [(.var 269)]
(.lett 270 .num (.app 1 0 [(.var 269)])
(.lett 271 (.int .u64) (.bin .or .u64 (.limb 270 0) (.lit 2))
(.req 0 [(.lit 50)]
(.lett 272 .num (.join [(.var 271), (.limb 270 1), (.limb 270 2), (.limb 270 3), (.limb 270 4), (.limb 270 5)])
(.req 1 [(.var 272)]
(.lett 273 .num (.app 1 0 [(.var 272)])
(.lett 274 (.int .u64) (.bin .or .u64 (.limb 273 0) (.lit 2))
(.req 0 [(.lit 99)]
(.lett 275 .num (.join [(.var 274), (.limb 273 1), (.limb 273 2), (.limb 273 3), (.limb 273 4), (.limb 273 5)])
(.req 1 [(.var 275)]
(.lett 276 .num (.app 1 0 [(.var 275)])
(.lett 277 (.int .u64) (.bin .or .u64 (.limb 276 0) (.lit 12))
(.req 0 [(.lit 54)]
(.lett 278 .num (.join [(.var 277), (.limb 276 1), (.limb 276 2), (.limb 276 3), (.limb 276 4), (.limb 276 5)])
(.req 1 [(.var 278)]
(.lett 279 .num (.app 1 0 [(.var 278)])
(.lett 280 (.int .u64) (.bin .or .u64 (.limb 279 0) (.lit 6))
(.req 0 [(.lit 98)]
(.lett 281 .num (.join [(.var 280), (.limb 279 1), (.limb 279 2), (.limb 279 3), (.limb 279 4), (.limb 279 5)])
(.req 1 [(.var 281)]
(.lett 282 .num (.app 1 0 [(.var 281)])
(.lett 283 (.int .u64) (.bin .or .u64 (.limb 282 0) (.lit 11))
(.req 0 [(.lit 98)]
(.lett 284 .num (.join [(.var 283), (.limb 282 1), (.limb 282 2), (.limb 282 3), (.limb 282 4), (.limb 282 5)])
(.req 1 [(.var 284)]
(.lett 285 .num (.app 1 0 [(.var 284)])
(.lett 286 (.int .u64) (.bin .or .u64 (.limb 285 0) (.lit 11))
(.req 0 [(.lit 56)]
(.req 1 [(.lit 0)]
(.lett 287 .num (.app 1 0 [(.lit 0)])
(.lett 288 (.int .u64) (.bin .or .u64 (.limb 287 0) (.lit 8))
(.req 0 [(.lit 98)]
(.lett 289 .num (.join [(.var 288), (.limb 287 1), (.limb 287 2), (.limb 287 3), (.limb 287 4), (.limb 287 5)])
(.req 1 [(.var 289)]
(.lett 290 .num (.app 1 0 [(.var 289)])
(.lett 291 (.int .u64) (.bin .or .u64 (.limb 290 0) (.lit 11))
(.req 0 [(.lit 51)]
(.lett 292 .num (.join [(.var 291), (.limb 290 1), (.limb 290 2), (.limb 290 3), (.limb 290 4), (.limb 290 5)])
(.req 1 [(.var 292)]
(.lett 293 .num (.app 1 0 [(.var 292)])
(.lett 294 (.int .u64) (.bin .or .u64 (.limb 293 0) (.lit 3))
(.req 0 [(.lit 102)]
(.lett 295 .num (.join [(.var 294), (.limb 293 1), (.limb 293 2), (.limb 293 3), (.limb 293 4), (.limb 293 5)])
(.req 1 [(.var 295)]
(.lett 296 .num (.app 1 0 [(.var 295)])
(.lett 297 (.int .u64) (.bin .or .u64 (.limb 296 0) (.lit 15))
(.req 0 [(.lit 52)]
(.lett 298 .num (.join [(.var 297), (.limb 296 1), (.limb 296 2), (.limb 296 3), (.limb 296 4), (.limb 296 5)])
(.req 1 [(.var 298)]
(.lett 299 .num (.app 1 0 [(.var 298)])
(.lett 300 (.int .u64) (.bin .or .u64 (.limb 299 0) (.lit 4))
(.req 0 [(.lit 56)]
(.lett 301 .num (.join [(.var 300), (.limb 299 1), (.limb 299 2), (.limb 299 3), (.limb 299 4), (.limb 299 5)])
(.req 1 [(.var 301)]
(.lett 302 .num (.app 1 0 [(.var 301)])
(.lett 303 (.int .u64) (.bin .or .u64 (.limb 302 0) (.lit 8))
(.req 0 [(.lit 49)]
(.lett 304 .num (.join [(.var 303), (.limb 302 1), (.limb 302 2), (.limb 302 3), (.limb 302 4), (.limb 302 5)])
(.req 1 [(.var 304)]
(.lett 305 .num (.app 1 0 [(.var 304)])
(.lett 306 (.int .u64) (.bin .or .u64 (.limb 305 0) (.lit 1))
(.req 0 [(.lit 101)]
(.lett 307 .num (.join [(.var 306), (.limb 305 1), (.limb 305 2), (.limb 305 3), (.limb 305 4), (.limb 305 5)])
(.req 1 [(.var 307)]
(.lett 308 .num (.app 1 0 [(.var 307)])
(.lett 309 (.int .u64) (.bin .or .u64 (.limb 308 0) (.lit 14))
(.req 0 [(.lit 51)]
(.lett 310 .num (.join [(.var 309), (.limb 308 1), (.limb 308 2), (.limb 308 3), (.limb 308 4), (.limb 308 5)])
(.req 1 [(.var 310)]
(.lett 311 .num (.app 1 0 [(.var 310)])
(.lett 312 (.int .u64) (.bin .or .u64 (.limb 311 0) (.lit 3))
(.req 0 [(.lit 97)]
(.lett 313 .num (.join [(.var 312), (.limb 311 1), (.limb 311 2), (.limb 311 3), (.limb 311 4), (.limb 311 5)])
(.req 1 [(.var 313)]
(.lett 314 .num (.app 1 0 [(.var 313)])
(.lett 315 (.int .u64) (.bin .or .u64 (.limb 314 0) (.lit 10))
(.req 0 [(.lit 97)]
(.lett 316 .num (.join [(.var 315), (.limb 314 1), (.limb 314 2), (.limb 314 3), (.limb 314 4), (.limb 314 5)])
(.req 1 [(.var 316)]
(.lett 317 .num (.app 1 0 [(.var 316)])
(.lett 318 (.int .u64) (.bin .or .u64 (.limb 317 0) (.lit 10))
(.req 0 [(.lit 97)]
(.lett 319 .num (.join [(.var 318), (.limb 317 1), (.limb 317 2), (.limb 317 3), (.limb 317 4), (.limb 317 5)])
(.req 1 [(.var 319)]
(.lett 320 .num (.app 1 0 [(.var 319)])
(.lett 321 (.int .u64) (.bin .or .u64 (.limb 320 0) (.lit 10))
(.req 0 [(.lit 48)]
(.lett 322 .num (.join [(.var 321), (.limb 320 1), (.limb 320 2), (.limb 320 3), (.limb 320 4), (.limb 320 5)])
(.req 1 [(.var 322)]
(.lett 323 .num (.app 1 0 [(.var 322)])
(.lett 324 (.int .u64) (.bin .or .u64 (.limb 323 0) (.lit 0))
(.req 0 [(.lit 102)]
(.lett 325 .num (.join [(.var 324), (.limb 323 1), (.limb 323 2), (.limb 323 3), (.limb 323 4), (.limb 323 5)])
(.req 1 [(.var 325)]
(.lett 326 .num (.app 1 0 [(.var 325)])
(.lett 327 (.int .u64) (.bin .or .u64 (.limb 326 0) (.lit 15))
(.req 0 [(.lit 49)]
(.lett 328 .num (.join [(.var 327), (.limb 326 1), (.limb 326 2), (.limb 326 3), (.limb 326 4), (.limb 326 5)])
(.req 1 [(.var 328)]
(.lett 329 .num (.app 1 0 [(.var 328)])
(.lett 330 (.int .u64) (.bin .or .u64 (.limb 329 0) (.lit 1))
(.req 0 [(.lit 97)]
(.lett 331 .num (.join [(.var 330), (.limb 329 1), (.limb 329 2), (.limb 329 3), (.limb 329 4), (.limb 329 5)])
(.req 1 [(.var 331)]
(.lett 332 .num (.app 1 0 [(.var 331)])
(.lett 333 (.int .u64) (.bin .or .u64 (.limb 332 0) (.lit 10))
(.req 0 [(.lit 48)]
(.lett 334 .num (.join [(.var 333), (.limb 332 1), (.limb 332 2), (.limb 332 3), (.limb 332 4), (.limb 332 5)])
(.req 1 [(.var 334)]
(.lett 335 .num (.app 1 0 [(.var 334)])
(.lett 336 (.int .u64) (.bin .or .u64 (.limb 335 0) (.lit 0))
(.req 0 [(.lit 57)]
(.lett 337 .num (.join [(.var 336), (.limb 335 1), (.limb 335 2), (.limb 335 3), (.limb 335 4), (.limb 335 5)])
(.req 1 [(.var 337)]
(.lett 338 .num (.app 1 0 [(.var 337)])
(.lett 339 (.int .u64) (.bin .or .u64 (.limb 338 0) (.lit 9))
(.req 0 [(.lit 101)]
(.lett 340 .num (.join [(.var 339), (.limb 338 1), (.limb 338 2), (.limb 338 3), (.limb 338 4), (.limb 338 5)])
(.req 1 [(.var 340)]
(.lett 341 .num (.app 1 0 [(.var 340)])
(.lett 342 (.int .u64) (.bin .or .u64 (.limb 341 0) (.lit 14))
(.req 0 [(.lit 51)]
(.lett 343 .num (.join [(.var 342), (.limb 341 1), (.limb 341 2), (.limb 341 3), (.limb 341 4), (.limb 341 5)])
(.req 1 [(.var 343)]
(.lett 344 .num (.app 1 0 [(.var 343)])
(.lett 345 (.int .u64) (.bin .or .u64 (.limb 344 0) (.lit 3))
(.req 0 [(.lit 48)]
(.lett 346 .num (.join [(.var 345), (.limb 344 1), (.limb 344 2), (.limb 344 3), (.limb 344 4), (.limb 344 5)])
(.req 1 [(.var 346)]
(.lett 347 .num (.app 1 0 [(.var 346)])
(.lett 348 (.int .u64) (.bin .or .u64 (.limb 347 0) (.lit 0))
(.req 0 [(.lit 101)]
(.lett 349 .num (.join [(.var 348), (.limb 347 1), (.limb 347 2), (.limb 347 3), (.limb 347 4), (.limb 347 5)])
(.req 1 [(.var 349)]
(.lett 350 .num (.app 1 0 [(.var 349)])
(.lett 351 (.int .u64) (.bin .or .u64 (.limb 350 0) (.lit 14))
(.req 0 [(.lit 100)]
(.lett 352 .num (.join [(.var 351), (.limb 350 1), (.limb 350 2), (.limb 350 3), (.limb 350 4), (.limb 350 5)])
(.req 1 [(.var 352)]
(.lett 353 .num (.app 1 0 [(.var 352)])
(.lett 354 (.int .u64) (.bin .or .u64 (.limb 353 0) (.lit 13))
(.req 0 [(.lit 55)]
(.lett 355 .num (.join [(.var 354), (.limb 353 1), (.limb 353 2), (.limb 353 3), (.limb 353 4), (.limb 353 5)])
(.req 1 [(.var 355)]
(.lett 356 .num (.app 1 0 [(.var 355)])
(.lett 357 (.int .u64) (.bin .or .u64 (.limb 356 0) (.lit 7))
(.req 0 [(.lit 52)]
(.lett 358 .num (.join [(.var 357), (.limb 356 1), (.limb 356 2), (.limb 356 3), (.limb 356 4), (.limb 356 5)])
(.req 1 [(.var 358)]
(.lett 359 .num (.app 1 0 [(.var 358)])
(.lett 360 (.int .u64) (.bin .or .u64 (.limb 359 0) (.lit 4))
(.req 0 [(.lit 49)]
(.lett 361 .num (.join [(.var 360), (.limb 359 1), (.limb 359 2), (.limb 359 3), (.limb 359 4), (.limb 359 5)])
(.req 1 [(.var 361)]
(.lett 362 .num (.app 1 0 [(.var 361)])
(.lett 363 (.int .u64) (.bin .or .u64 (.limb 362 0) (.lit 1))
(.req 0 [(.lit 100)]
(.lett 364 .num (.join [(.var 363), (.limb 362 1), (.limb 362 2), (.limb 362 3), (.limb 362 4), (.limb 362 5)])
(.req 1 [(.var 364)]
(.lett 365 .num (.app 1 0 [(.var 364)])
(.lett 366 (.int .u64) (.bin .or .u64 (.limb 365 0) (.lit 13))
(.req 0 [(.lit 56)]
(.lett 367 .num (.join [(.var 366), (.limb 365 1), (.limb 365 2), (.limb 365 3), (.limb 365 4), (.limb 365 5)])
(.req 1 [(.var 367)]
(.lett 368 .num (.app 1 0 [(.var 367)])
(.lett 369 (.int .u64) (.bin .or .u64 (.limb 368 0) (.lit 8))
(.req 0 [(.lit 97)]
(.lett 370 .num (.join [(.var 369), (.limb 368 1), (.limb 368 2), (.limb 368 3), (.limb 368 4), (.limb 368 5)])
(.req 1 [(.var 370)]
(.lett 371 .num (.app 1 0 [(.var 370)])
(.lett 372 (.int .u64) (.bin .or .u64 (.limb 371 0) (.lit 10))
(.req 0 [(.lit 101)]
(.lett 373 .num (.join [(.var 372), (.limb 371 1), (.limb 371 2), (.limb 371 3), (.limb 371 4), (.limb 371 5)])
(.req 1 [(.var 373)]
(.lett 374 .num (.app 1 0 [(.var 373)])
(.lett 375 (.int .u64) (.bin .or .u64 (.limb 374 0) (.lit 14))
(.req 0 [(.lit 52)]
(.lett 376 .num (.join [(.var 375), (.limb 374 1), (.limb 374 2), (.limb 374 3), (.limb 374 4), (.limb 374 5)])
(.req 1 [(.var 376)]
(.lett 377 .num (.app 1 0 [(.var 376)])
(.lett 378 (.int .u64) (.bin .or .u64 (.limb 377 0) (.lit 4))
(.req 0 [(.lit 102)]
(.lett 379 .num (.join [(.var 378), (.limb 377 1), (.limb 377 2), (.limb 377 3), (.limb 377 4), (.limb 377 5)])
(.req 1 [(.var 379)]
(.lett 380 .num (.app 1 0 [(.var 379)])
(.lett 381 (.int .u64) (.bin .or .u64 (.limb 380 0) (.lit 15))
(.req 0 [(.lit 99)]
(.lett 382 .num (.join [(.var 381), (.limb 380 1), (.limb 380 2), (.limb 380 3), (.limb 380 4), (.limb 380 5)])
(.req 1 [(.var 382)]
(.lett 383 .num (.app 1 0 [(.var 382)])
(.lett 384 (.int .u64) (.bin .or .u64 (.limb 383 0) (.lit 12))
(.req 0 [(.lit 102)]
(.lett 385 .num (.join [(.var 384), (.limb 383 1), (.limb 383 2), (.limb 383 3), (.limb 383 4), (.limb 383 5)])
(.req 1 [(.var 385)]
(.lett 386 .num (.app 1 0 [(.var 385)])
(.lett 387 (.int .u64) (.bin .or .u64 (.limb 386 0) (.lit 15))
(.req 0 [(.lit 53)]
(.lett 388 .num (.join [(.var 387), (.limb 386 1), (.limb 386 2), (.limb 386 3), (.limb 386 4), (.limb 386 5)])
(.req 1 [(.var 388)]
(.lett 389 .num (.app 1 0 [(.var 388)])
(.lett 390 (.int .u64) (.bin .or .u64 (.limb 389 0) (.lit 5))
(.req 0 [(.lit 101)]
(.lett 391 .num (.join [(.var 390), (.limb 389 1), (.limb 389 2), (.limb 389 3), (.limb 389 4), (.limb 389 5)])
(.req 1 [(.var 391)]
(.lett 392 .num (.app 1 0 [(.var 391)])
(.lett 393 (.int .u64) (.bin .or .u64 (.limb 392 0) (.lit 14))
(.req 0 [(.lit 48)]
(.lett 394 .num (.join [(.var 393), (.limb 392 1), (.limb 392 2), (.limb 392 3), (.limb 392 4), (.limb 392 5)])
(.req 1 [(.var 394)]
(.lett 395 .num (.app 1 0 [(.var 394)])
(.lett 396 (.int .u64) (.bin .or .u64 (.limb 395 0) (.lit 0))
(.req 0 [(.lit 57)]
(.lett 397 .num (.join [(.var 396), (.limb 395 1), (.limb 395 2), (.limb 395 3), (.limb 395 4), (.limb 395 5)])
(.req 1 [(.var 397)]
(.lett 398 .num (.app 1 0 [(.var 397)])
(.lett 399 (.int .u64) (.bin .or .u64 (.limb 398 0) (.lit 9))
(.req 0 [(.lit 53)]
(.lett 400 .num (.join [(.var 399), (.limb 398 1), (.limb 398 2), (.limb 398 3), (.limb 398 4), (.limb 398 5)])
(.req 1 [(.var 400)]
(.lett 401 .num (.app 1 0 [(.var 400)])
(.lett 402 (.int .u64) (.bin .or .u64 (.limb 401 0) (.lit 5))
(.req 0 [(.lit 100)]
(.lett 403 .num (.join [(.var 402), (.limb 401 1), (.limb 401 2), (.limb 401 3), (.limb 401 4), (.limb 401 5)])
(.req 1 [(.var 403)]
(.lett 404 .num (.app 1 0 [(.var 403)])
(.lett 405 (.int .u64) (.bin .or .u64 (.limb 404 0) (.lit 13))
(.req 0 [(.lit 53)]
(.lett 406 .num (.join [(.var 405), (.limb 404 1), (.limb 404 2), (.limb 404 3), (.limb 404 4), (.limb 404 5)])
(.req 1 [(.var 406)]
(.lett 407 .num (.app 1 0 [(.var 406)])
(.lett 408 (.int .u64) (.bin .or .u64 (.limb 407 0) (.lit 5))
(.req 0 [(.lit 100)]
(.lett 409 .num (.join [(.var 408), (.limb 407 1), (.limb 407 2), (.limb 407 3), (.limb 407 4), (.limb 407 5)])
(.req 1 [(.var 409)]
(.lett 410 .num (.app 1 0 [(.var 409)])
(.lett 411 (.int .u64) (.bin .or .u64 (.limb 410 0) (.lit 13))
(.req 0 [(.lit 48)]
(.lett 412 .num (.join [(.var 411), (.limb 410 1), (.limb 410 2), (.limb 410 3), (.limb 410 4), (.limb 410 5)])
(.req 1 [(.var 412)]
(.lett 413 .num (.app 1 0 [(.var 412)])
(.lett 414 (.int .u64) (.bin .or .u64 (.limb 413 0) (.lit 0))
(.req 0 [(.lit 48)]
(.lett 415 .num (.join [(.var 414), (.limb 413 1), (.limb 413 2), (.limb 413 3), (.limb 413 4), (.limb 413 5)])
(.req 1 [(.var 415)]
(.lett 416 .num (.app 1 0 [(.var 415)])
(.lett 417 (.int .u64) (.bin .or .u64 (.limb 416 0) (.lit 0))
(.req 0 [(.lit 97)]
(.lett 418 .num (.join [(.var 417), (.limb 416 1), (.limb 416 2), (.limb 416 3), (.limb 416 4), (.limb 416 5)])
(.req 1 [(.var 418)]
(.lett 419 .num (.app 1 0 [(.var 418)])
(.lett 420 (.int .u64) (.bin .or .u64 (.limb 419 0) (.lit 10))
(.req 0 [(.lit 102)]
(.lett 421 .num (.join [(.var 420), (.limb 419 1), (.limb 419 2), (.limb 419 3), (.limb 419 4), (.limb 419 5)])
(.req 1 [(.var 421)]
(.lett 422 .num (.app 1 0 [(.var 421)])
(.lett 423 (.int .u64) (.bin .or .u64 (.limb 422 0) (.lit 15))
(.req 0 [(.lit 54)]
(.lett 424 .num (.join [(.var 423), (.limb 422 1), (.limb 422 2), (.limb 422 3), (.limb 422 4), (.limb 422 5)])
(.req 1 [(.var 424)]
(.lett 425 .num (.app 1 0 [(.var 424)])
(.lett 426 (.int .u64) (.bin .or .u64 (.limb 425 0) (.lit 6))
(.req 0 [(.lit 48)]
(.lett 427 .num (.join [(.var 426), (.limb 425 1), (.limb 425 2), (.limb 425 3), (.limb 425 4), (.limb 425 5)])
(.req 1 [(.var 427)]
(.lett 428 .num (.app 1 0 [(.var 427)])
(.lett 429 (.int .u64) (.bin .or .u64 (.limb 428 0) (.lit 0))
(.req 0 [(.lit 48)]
(.lett 430 .num (.join [(.var 429), (.limb 428 1), (.limb 428 2), (.limb 428 3), (.limb 428 4), (.limb 428 5)])
(.req 1 [(.var 430)]
(.lett 431 .num (.app 1 0 [(.var 430)])
(.lett 432 (.int .u64) (.bin .or .u64 (.limb 431 0) (.lit 0))
(.req 0 [(.lit 100)]
(.lett 433 .num (.join [(.var 432), (.limb 431 1), (.limb 431 2), (.limb 431 3), (.limb 431 4), (.limb 431 5)])
(.req 1 [(.var 433)]
(.lett 434 .num (.app 1 0 [(.var 433)])
(.lett 435 (.int .u64) (.bin .or .u64 (.limb 434 0) (.lit 13))
(.req 0 [(.lit 98)]
(.lett 436 .num (.join [(.var 435), (.limb 434 1), (.limb 434 2), (.limb 434 3), (.limb 434 4), (.limb 434 5)])
(.req 1 [(.var 436)]
(.lett 437 .num (.app 1 0 [(.var 436)])
(.lett 438 (.int .u64) (.bin .or .u64 (.limb 437 0) (.lit 11))
(.req 0 [(.lit 49)]
(.lett 439 .num (.join [(.var 438), (.limb 437 1), (.limb 437 2), (.limb 437 3), (.limb 437 4), (.limb 437 5)])
(.req 1 [(.var 439)]
(.lett 440 .num (.app 1 0 [(.var 439)])
(.lett 441 (.int .u64) (.bin .or .u64 (.limb 440 0) (.lit 1))
(.req 0 [(.lit 56)]
(.lett 442 .num (.join [(.var 441), (.limb 440 1), (.limb 440 2), (.limb 440 3), (.limb 440 4), (.limb 440 5)])
(.req 1 [(.var 442)]
(.lett 443 .num (.app 1 0 [(.var 442)])
(.lett 444 (.int .u64) (.bin .or .u64 (.limb 443 0) (.lit 8))
(.req 0 [(.lit 99)]
(.lett 445 .num (.join [(.var 444), (.limb 443 1), (.limb 443 2), (.limb 443 3), (.limb 443 4), (.limb 443 5)])
(.req 1 [(.var 445)]
(.lett 446 .num (.app 1 0 [(.var 445)])
(.lett 447 (.int .u64) (.bin .or .u64 (.limb 446 0) (.lit 12))
(.req 0 [(.lit 98)]
(.lett 448 .num (.join [(.var 447), (.limb 446 1), (.limb 446 2), (.limb 446 3), (.limb 446 4), (.limb 446 5)])
(.req 1 [(.var 448)]
(.lett 449 .num (.app 1 0 [(.var 448)])
(.lett 450 (.int .u64) (.bin .or .u64 (.limb 449 0) (.lit 11))
(.req 0 [(.lit 50)]
(.lett 451 .num (.join [(.var 450), (.limb 449 1), (.limb 449 2), (.limb 449 3), (.limb 449 4), (.limb 449 5)])
(.req 1 [(.var 451)]
(.lett 452 .num (.app 1 0 [(.var 451)])
(.lett 453 (.int .u64) (.bin .or .u64 (.limb 452 0) (.lit 2))
(.req 0 [(.lit 99)]
(.lett 454 .num (.join [(.var 453), (.limb 452 1), (.limb 452 2), (.limb 452 3), (.limb 452 4), (.limb 452 5)])
(.req 1 [(.var 454)]
(.lett 455 .num (.app 1 0 [(.var 454)])
(.lett 456 (.int .u64) (.bin .or .u64 (.limb 455 0) (.lit 12))
(.req 0 [(.lit 48)]
(.lett 457 .num (.join [(.var 456), (.limb 455 1), (.limb 455 2), (.limb 455 3), (.limb 455 4), (.limb 455 5)])
(.req 1 [(.var 457)]
(.lett 458 .num (.app 1 0 [(.var 457)])
(.lett 459 (.int .u64) (.bin .or .u64 (.limb 458 0) (.lit 0))
(.req 0 [(.lit 52)]
(.lett 460 .num (.join [(.var 459), (.limb 458 1), (.limb 458 2), (.limb 458 3), (.limb 458 4), (.limb 458 5)])
(.req 1 [(.var 460)]
(.lett 461 .num (.app 1 0 [(.var 460)])
(.lett 462 (.int .u64) (.bin .or .u64 (.limb 461 0) (.lit 4))
(.req 0 [(.lit 98)]
(.lett 463 .num (.join [(.var 462), (.limb 461 1), (.limb 461 2), (.limb 461 3), (.limb 461 4), (.limb 461 5)])
(.req 1 [(.var 463)]
(.lett 464 .num (.app 1 0 [(.var 463)])
(.lett 465 (.int .u64) (.bin .or .u64 (.limb 464 0) (.lit 11))
(.req 0 [(.lit 51)]
(.lett 466 .num (.join [(.var 465), (.limb 464 1), (.limb 464 2), (.limb 464 3), (.limb 464 4), (.limb 464 5)])
(.req 1 [(.var 466)]
(.lett 467 .num (.app 1 0 [(.var 466)])
(.lett 468 (.int .u64) (.bin .or .u64 (.limb 467 0) (.lit 3))
(.req 0 [(.lit 101)]
(.lett 469 .num (.join [(.var 468), (.limb 467 1), (.limb 467 2), (.limb 467 3), (.limb 467 4), (.limb 467 5)])
(.req 1 [(.var 469)]
(.lett 470 .num (.app 1 0 [(.var 469)])
(.lett 471 (.int .u64) (.bin .or .u64 (.limb 470 0) (.lit 14))
(.req 0 [(.lit 100)]
(.lett 472 .num (.join [(.var 471), (.limb 470 1), (.limb 470 2), (.limb 470 3), (.limb 470 4), (.limb 470 5)])
(.req 1 [(.var 472)]
(.lett 473 .num (.app 1 0 [(.var 472)])
(.lett 474 (.int .u64) (.bin .or .u64 (.limb 473 0) (.lit 13))
(.req 0 [(.lit 100)]
(.lett 475 .num (.join [(.var 474), (.limb 473 1), (.limb 473 2), (.limb 473 3), (.limb 473 4), (.limb 473 5)])
(.req 1 [(.var 475)]
(.lett 476 .num (.app 1 0 [(.var 475)])
(.lett 477 (.int .u64) (.bin .or .u64 (.limb 476 0) (.lit 13))
(.req 0 [(.lit 48)]
(.lett 478 .num (.join [(.var 477), (.limb 476 1), (.limb 476 2), (.limb 476 3), (.limb 476 4), (.limb 476 5)])
(.req 1 [(.var 478)]
(.lett 479 .num (.app 1 0 [(.var 478)])
(.lett 480 (.int .u64) (.bin .or .u64 (.limb 479 0) (.lit 0))
(.req 0 [(.lit 51)]
(.lett 481 .num (.join [(.var 480), (.limb 479 1), (.limb 479 2), (.limb 479 3), (.limb 479 4), (.limb 479 5)])
(.req 1 [(.var 481)]
(.lett 482 .num (.app 1 0 [(.var 481)])
(.lett 483 (.int .u64) (.bin .or .u64 (.limb 482 0) (.lit 3))
(.req 0 [(.lit 99)]
(.lett 484 .num (.join [(.var 483), (.limb 482 1), (.limb 482 2), (.limb 482 3), (.limb 482 4), (.limb 482 5)])
(.req 1 [(.var 484)]
(.lett 485 .num (.app 1 0 [(.var 484)])
(.lett 486 (.int .u64) (.bin .or .u64 (.limb 485 0) (.lit 12))
(.req 0 [(.lit 99)]
(.lett 487 .num (.join [(.var 486), (.limb 485 1), (.limb 485 2), (.limb 485 3), (.limb 485 4), (.limb 485 5)])
(.req 1 [(.var 487)]
(.lett 488 .num (.app 1 0 [(.var 487)])
(.lett 489 (.int .u64) (.bin .or .u64 (.limb 488 0) (.lit 12))
(.req 0 [(.lit 55)]
(.lett 490 .num (.join [(.var 489), (.limb 488 1), (.limb 488 2), (.limb 488 3), (.limb 488 4), (.limb 488 5)])
(.req 1 [(.var 490)]
(.lett 491 .num (.app 1 0 [(.var 490)])
(.lett 492 (.int .u64) (.bin .or .u64 (.limb 491 0) (.lit 7))
(.req 0 [(.lit 52)]
(.lett 493 .num (.join [(.var 492), (.limb 491 1), (.limb 491 2), (.limb 491 3), (.limb 491 4), (.limb 491 5)])
(.req 1 [(.var 493)]
(.lett 494 .num (.app 1 0 [(.var 493)])
(.lett 495 (.int .u64) (.bin .or .u64 (.limb 494 0) (.lit 4))
(.req 0 [(.lit 52)]
(.lett 496 .num (.join [(.var 495), (.limb 494 1), (.limb 494 2), (.limb 494 3), (.limb 494 4), (.limb 494 5)])
(.req 1 [(.var 496)]
(.lett 497 .num (.app 1 0 [(.var 496)])
(.lett 498 (.int .u64) (.bin .or .u64 (.limb 497 0) (.lit 4))
(.req 0 [(.lit 97)]
(.lett 499 .num (.join [(.var 498), (.limb 497 1), (.limb 497 2), (.limb 497 3), (.limb 497 4), (.limb 497 5)])
(.req 1 [(.var 499)]
(.lett 500 .num (.app 1 0 [(.var 499)])
(.lett 501 (.int .u64) (.bin .or .u64 (.limb 500 0) (.lit 10))
(.req 0 [(.lit 50)]
(.lett 502 .num (.join [(.var 501), (.limb 500 1), (.limb 500 2), (.limb 500 3), (.limb 500 4), (.limb 500 5)])
(.req 1 [(.var 502)]
(.lett 503 .num (.app 1 0 [(.var 502)])
(.lett 504 (.int .u64) (.bin .or .u64 (.limb 503 0) (.lit 2))
(.req 0 [(.lit 56)]
(.lett 505 .num (.join [(.var 504), (.limb 503 1), (.limb 503 2), (.limb 503 3), (.limb 503 4), (.limb 503 5)])
(.req 1 [(.var 505)]
(.lett 506 .num (.app 1 0 [(.var 505)])
(.lett 507 (.int .u64) (.bin .or .u64 (.limb 506 0) (.lit 8))
(.req 0 [(.lit 56)]
(.lett 508 .num (.join [(.var 507), (.limb 506 1), (.limb 506 2), (.limb 506 3), (.limb 506 4), (.limb 506 5)])
(.req 1 [(.var 508)]
(.lett 509 .num (.app 1 0 [(.var 508)])
(.lett 510 (.int .u64) (.bin .or .u64 (.limb 509 0) (.lit 8))
(.req 0 [(.lit 56)]
(.lett 511 .num (.join [(.var 510), (.limb 509 1), (.limb 509 2), (.limb 509 3), (.limb 509 4), (.limb 509 5)])
(.req 1 [(.var 511)]
(.lett 512 .num (.app 1 0 [(.var 511)])
(.lett 513 (.int .u64) (.bin .or .u64 (.limb 512 0) (.lit 8))
(.req 0 [(.lit 97)]
(.lett 514 .num (.join [(.var 513), (.limb 512 1), (.limb 512 2), (.limb 512 3), (.limb 512 4), (.limb 512 5)])
(.req 1 [(.var 514)]
(.lett 515 .num (.app 1 0 [(.var 514)])
(.lett 516 (.int .u64) (.bin .or .u64 (.limb 515 0) (.lit 10))
(.req 0 [(.lit 101)]
(.lett 517 .num (.join [(.var 516), (.limb 515 1), (.limb 515 2), (.limb 515 3), (.limb 515 4), (.limb 515 5)])
(.req 1 [(.var 517)]
(.lett 518 .num (.app 1 0 [(.var 517)])
(.lett 519 (.int .u64) (.bin .or .u64 (.limb 518 0) (.lit 14))
(.req 0 [(.lit 52)]
(.lett 520 .num (.join [(.var 519), (.limb 518 1), (.limb 518 2), (.limb 518 3), (.limb 518 4), (.limb 518 5)])
(.req 1 [(.var 520)]
(.lett 521 .num (.app 1 0 [(.var 520)])
(.lett 522 (.int .u64) (.bin .or .u64 (.limb 521 0) (.lit 4))
(.req 0 [(.lit 48)]
(.lett 523 .num (.join [(.var 522), (.limb 521 1), (.limb 521 2), (.limb 521 3), (.limb 521 4), (.limb 521 5)])
(.req 1 [(.var 523)]
(.lett 524 .num (.app 1 0 [(.var 523)])
(.lett 525 (.int .u64) (.bin .or .u64 (.limb 524 0) (.lit 0))
(.req 0 [(.lit 99)]
(.lett 526 .num (.join [(.var 525), (.limb 524 1), (.limb 524 2), (.limb 524 3), (.limb 524 4), (.limb 524 5)])
(.req 1 [(.var 526)]
(.lett 527 .num (.app 1 0 [(.var 526)])
(.lett 528 (.int .u64) (.bin .or .u64 (.limb 527 0) (.lit 12))
(.req 0 [(.lit 97)]
(.lett 529 .num (.join [(.var 528), (.limb 527 1), (.limb 527 2), (.limb 527 3), (.limb 527 4), (.limb 527 5)])
(.req 1 [(.var 529)]
(.lett 530 .num (.app 1 0 [(.var 529)])
(.lett 531 (.int .u64) (.bin .or .u64 (.limb 530 0) (.lit 10))
(.req 0 [(.lit 97)]
(.lett 532 .num (.join [(.var 531), (.limb 530 1), (.limb 530 2), (.limb 530 3), (.limb 530 4), (.limb 530 5)])
(.req 1 [(.var 532)]
(.lett 533 .num (.app 1 0 [(.var 532)])
(.lett 534 (.int .u64) (.bin .or .u64 (.limb 533 0) (.lit 10))
(.req 0 [(.lit 50)]
(.lett 535 .num (.join [(.var 534), (.limb 533 1), (.limb 533 2), (.limb 533 3), (.limb 533 4), (.limb 533 5)])
(.req 1 [(.var 535)]
(.lett 536 .num (.app 1 0 [(.var 535)])
(.lett 537 (.int .u64) (.bin .or .u64 (.limb 536 0) (.lit 2))
(.req 0 [(.lit 51)]
(.lett 538 .num (.join [(.var 537), (.limb 536 1), (.limb 536 2), (.limb 536 3), (.limb 536 4), (.limb 536 5)])
(.req 1 [(.var 538)]
(.lett 539 .num (.app 1 0 [(.var 538)])
(.lett 540 (.int .u64) (.bin .or .u64 (.limb 539 0) (.lit 3))
(.req 0 [(.lit 50)]
(.lett 541 .num (.join [(.var 540), (.limb 539 1), (.limb 539 2), (.limb 539 3), (.limb 539 4), (.limb 539 5)])
(.req 1 [(.var 541)]
(.lett 542 .num (.app 1 0 [(.var 541)])
(.lett 543 (.int .u64) (.bin .or .u64 (.limb 542 0) (.lit 2))
(.req 0 [(.lit 57)]
(.lett 544 .num (.join [(.var 543), (.limb 542 1), (.limb 542 2), (.limb 542 3), (.limb 542 4), (.limb 542 5)])
(.req 1 [(.var 544)]
(.lett 545 .num (.app 1 0 [(.var 544)])
(.lett 546 (.int .u64) (.bin .or .u64 (.limb 545 0) (.lit 9))
(.req 0 [(.lit 52)]
(.lett 547 .num (.join [(.var 546), (.limb 545 1), (.limb 545 2), (.limb 545 3), (.limb 545 4), (.limb 545 5)])
(.req 1 [(.var 547)]
(.lett 548 .num (.app 1 0 [(.var 547)])
(.lett 549 (.int .u64) (.bin .or .u64 (.limb 548 0) (.lit 4))
(.req 0 [(.lit 54)]
(.lett 550 .num (.join [(.var 549), (.limb 548 1), (.limb 548 2), (.limb 548 3), (.limb 548 4), (.limb 548 5)])
(.req 1 [(.var 550)]
(.lett 551 .num (.app 1 0 [(.var 550)])
(.lett 552 (.int .u64) (.bin .or .u64 (.limb 551 0) (.lit 6))
(.req 0 [(.lit 99)]
(.lett 553 .num (.join [(.var 552), (.limb 551 1), (.limb 551 2), (.limb 551 3), (.limb 551 4), (.limb 551 5)])
(.req 1 [(.var 553)]
(.lett 554 .num (.app 1 0 [(.var 553)])
(.lett 555 (.int .u64) (.bin .or .u64 (.limb 554 0) (.lit 12))
(.req 0 [(.lit 53)]
(.lett 556 .num (.join [(.var 555), (.limb 554 1), (.limb 554 2), (.limb 554 3), (.limb 554 4), (.limb 554 5)])
(.req 1 [(.var 556)]
(.lett 557 .num (.app 1 0 [(.var 556)])
(.lett 558 (.int .u64) (.bin .or .u64 (.limb 557 0) (.lit 5))
(.req 0 [(.lit 101)]
(.lett 559 .num (.join [(.var 558), (.limb 557 1), (.limb 557 2), (.limb 557 3), (.limb 557 4), (.limb 557 5)])
(.req 1 [(.var 559)]
(.lett 560 .num (.app 1 0 [(.var 559)])
(.lett 561 (.int .u64) (.bin .or .u64 (.limb 560 0) (.lit 14))
(.req 0 [(.lit 55)]
(.lett 562 .num (.join [(.var 561), (.limb 560 1), (.limb 560 2), (.limb 560 3), (.limb 560 4), (.limb 560 5)])
(.req 1 [(.var 562)]
(.lett 563 .num (.app 1 0 [(.var 562)])
(.lett 564 (.int .u64) (.bin .or .u64 (.limb 563 0) (.lit 7))
(.req 0 [(.lit 101)]
(.lett 565 .num (.join [(.var 564), (.limb 563 1), (.limb 563 2), (.limb 563 3), (.limb 563 4), (.limb 563 5)])
(.req 1 [(.var 565)]
(.lett 566 .num (.app 1 0 [(.var 565)])
(.lett 567 (.int .u64) (.bin .or .u64 (.limb 566 0) (.lit 14))
(.req 0 [(.lit 49)]
(.lett 568 .num (.join [(.var 567), (.limb 566 1), (.limb 566 2), (.limb 566 3), (.limb 566 4), (.limb 566 5)])
(.req 1 [(.var 568)]
(.lett 569 .num (.app 1 0 [(.var 568)])
(.lett 570 (.int .u64) (.bin .or .u64 (.limb 569 0) (.lit 1))
(.lett 571 .num (.join [(.var 286), (.limb 285 1), (.limb 285 2), (.limb 285 3), (.limb 285 4), (.limb 285 5)])
(.lett 572 .num (.join [(.var 570), (.limb 569 1), (.limb 569 2), (.limb 569 3), (.limb 569 4), (.limb 569 5)])
(.ret [(.var 571), (.var 572), (.lit 0)]))))))))))))))))))))))))))))))))))))))))))))))))))))))))))))))))))))))))))))))))))))))))))))))))))))))))))))))))))))))))))))))))))))))))))))))))))))))))))))))))))))))))))))))))))))))))))))))))))))))))))))))))))))))))))))))))))))))))))))))))))))))))))))))))))))))))))))))))))))))))))))))))))))))))))))))))))))))))))))))))))))))))))))))))))))))))))))))))))))))))))))))))))))))))))))))))))))))))))))))))))))))))))))))))))))))))))))))))))))))))))))))))))))))))))))))))))))))))))))))))))))))))))))))))))))))))))))))))))))))))))))))))))))))))))))))))))))))))))))))))))))))))))))))))))))))))))))))))))))))))))))))))))))))))))))))))))))))))))))))))))))))))))))))))))))))))))))))))))))))))))))))))))))))))))))))))))))))))))))))))))))))))))))))))))))))))))))))))))))))))))))))))))))))))))))))))))))))))))))))))))))))))))))))))))))))))))))))))))))))))))))))))))))))))))))))))))))))))))))))))))))))))))))))))))))))))))))))))))))))))))))))))))))))))))))))))))))))))))))
def orGen1 : Oracle := fun g ws => match g, ws with
  | 0, [.wi c] => some [.wi (if 48 ≤ c ∧ c ≤ 57 then c - 48 else if 97 ≤ c ∧ c ≤ 102 then c - 87 else -1)]
  | 1, [.wi a] => if a < 2462625387274654950767440006258975862817483704404090416746768337765357610718575663213391640930307227550414249394176 then some [.wi (16 * a)] else none
  | _, _ => none
def isGen1 : List W → Bool | [.wi a, .wi b, .wi c] => a == g1X && b == g1Y && c == 0 | _ => false
theorem gen1_clo : tGen1.clo orGen1 isGen1 [] = true := by kernel_rfl
theorem law_gen1 (f1 f2 f : FuncId) (e : Nat → Int) : tGen1.says [kIdx f1, kShl4 f2] ⟨fun ys => ys = (kGen1 f).sem [], []⟩ e := by
  refine clo_says (fd := orGen1) (fun g us os h => ?_) (fun ws h => ?_) tGen1 [] gen1_clo fun p hp => absurd hp (List.not_mem_nil)
  · unfold orGen1 at h
    split at h
    · cases h; exact ⟨_, rfl, trivial, rfl⟩
    · split at h
      · rename_i a ha
        cases h
        refine ⟨_, rfl, ?_, rfl⟩
        show a < 2 ^ 380
        rw [show (2 : Int) ^ 380 = 2462625387274654950767440006258975862817483704404090416746768337765357610718575663213391640930307227550414249394176 by decide +kernel]; exact ha
      · cases h
    · cases h
  · match ws, h with
    | [.wi a, .wi b, .wi c], h =>
      have h : (a == g1X && b == g1Y && c == 0) = true := h
      simp only [Bool.and_eq_true, beq_iff_eq] at h
      show [a, b, c] = [g1X, g1Y, 0]
      rw [h.1.1, h.1.2, h.2]
end Go.Sx
