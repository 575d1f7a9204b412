/- The engine Sx, part AC: a function whose arguments nobody looks into, walked to its end: it answers true. -/
import Derived.Test.YtokfnacfnffpdabGreatDoorEd
namespace Go.Sx
open Go Go.RowKit

def topS0 (fn : Func) (tops : List V) : St := { tmps := tops.map SV.vl ++ List.replicate (fn.ntmps - tops.length) undefS, boxes := [], nv := 0, kn := [], gl := [], lvl := 0 }
noncomputable def treeTop (P : Program) (T : List K) (LA : List Ann) (fuel : Nat) (fn : Func) (tops : List V) : Tree :=
  match fn.body with
  | some c => run P T LA fuel (.code c) (topS0 fn tops) (fin P fn [.one .bool])
  | none => .bad 403 ""
/-- a function that answers true, whatever its arguments: read off the tree -/
theorem calls_of_run {P : Program} {T : List K} {LA : List Ann} (hm : P.follows .mixedOrders = true) (hT : ∀ (g : Nat) κ, T[g]? = some κ → κ.ok P) {f : FuncId} {fn : Func} (fuel : Nat) (hf : P.funcs[f]? = some fn)
    {tops : List V} {args : List Value} (ext : Nat → Value) (hv : ∀ m : M, m.ext = ext → VRels m 0 (fun _ => false) tops args)
    (hh : (treeTop P T LA fuel fn tops).holds T ⟨fun ys => ys = [1], []⟩ (fun _ => 0)) (w : World) :
    Calls P f args.toArray w fun e w' => e = .returned (.bool true) ∧ Below w.heap.size w w' := by
  unfold treeTop at hh
  cases hb : fn.body with
  | none => rw [hb] at hh; exact hh.elim
  | some c =>
    rw [hb] at hh
    simp only at hh
    refine calls_of_wp hf hb ?_
    let m : M := { env := fun _ => 0, rho := fun _ => (0, 0), ext := ext }
    let σ := topS0 fn tops
    have hbase : Rep w m { σ with tmps := [] } { tmps := #[], defers := [] } w := by
      refine ⟨rfl, rfl, fun i s hi => by simp at hi, Below.refl _ _, fun id b hb ho => ?_, fun id b hb ho => ?_, fun id id' b b' hb hb' ho _ _ => ?_, fun p hp => absurd hp (List.not_mem_nil), fun p hp => absurd hp (List.not_mem_nil)⟩
      all_goals simp [σ, topS0] at hb
    have hal : σ.al = fun _ => false := by funext id; simp [σ, topS0, St.al]
    have v1 : VRels m σ.nv σ.al tops args := by rw [hal]; exact hv m rfl
    have hR : Rep w m σ { tmps := args.toArray ++ Array.replicate (fn.ntmps - args.toArray.size) undef, defers := [] } w := enter_rep hbase v1 fn.ntmps
    refine run_sound hm hT fuel (.code c) σ (fin P fn [.one .bool]) w m _ w _ _ hR rfl hh fun e σ' m' a' w' goal' x1 x2 x3 x4 x5 => ?_
    have key : e = .normal ∨ e = .ret → bodyPost P fn (fun e w' => e = .returned (.bool true) ∧ Below w.heap.size w w') (exitOf e) a' w' := by
      intro he
      have x6 : (match resS P σ' fn with | none => .bad 401 "" | some vs => match takeOuts σ' σ'.nv [.one .bool] vs with | none => .bad 402 "" | some r => letts σ'.nv r.1 (.ret r.2) : Tree).holds T goal' m'.env := by
        rcases he with rfl | rfl <;> exact x5
      cases hrs : resS P σ' fn with
      | none => rw [hrs] at x6; exact x6.elim
      | some vs =>
        rw [hrs] at x6
        simp only at x6
        cases hto : takeOuts σ' σ'.nv [.one .bool] vs with
        | none => rw [hto] at x6; exact x6.elim
        | some r =>
          rw [hto] at x6
          simp only at x6
          obtain ⟨r1, r2⟩ := r
          obtain ⟨us, u1, u2⟩ := res_ok x4 hrs
          obtain ⟨o1, o2⟩ := takeOuts_ok (T := T) _ _ _ _ _ hto x4 u2
          obtain ⟨e1, k1, k2, k3, k4⟩ := letts_holds _ _ _ x6 (o1 (Nat.le_refl _)).1
          have hout := o2 e1 (fun i hi => k1 i hi) k3
          have hg : r2.map (·.ev e1) = [1] := by
            have : goal'.goal (r2.map (·.ev e1)) := k4
            rw [x1.1] at this; exact this
          rw [hg] at hout
          have hd := x4.defers
          have hbel := x4.below
          have hus : us = [.bool true] := by
            match us, hout with
            | [v], ho =>
              have h1 : [v] = [Value.bool true] := ho.2.1
              exact h1
          subst hus
          rcases he with rfl | rfl <;> exact ⟨hd, retV [.bool true], u1, rfl, hbel⟩
    cases e with
    | normal => exact key (.inl rfl)
    | ret => exact key (.inr rfl)
    | exit id => exact x5.elim
end Go.Sx
