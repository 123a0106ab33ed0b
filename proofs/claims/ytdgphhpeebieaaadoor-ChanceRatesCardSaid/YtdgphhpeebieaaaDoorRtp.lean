/-
  PROVED: ChanceRates: for all inputs the call of bandolier/bandolierlaw04.ChanceRates returns true, and what was there reads as it did. No condition; the card ties the listed tables of Go's library to the program's text.
-/
import Derived.Test.YtdgphhpeebieaaaDoorCards
import Derived.Test.YtdgphhpeebieaaaDoorTie
import Derived.Test.YtdgphhpeebieaaaDoorRt
import Derived.Test.YtdgphhpeebieaaaDoorPb
import Derived.Test.YtdgphhpeebieaaaDoorLw
import Derived.WalkKit
import Derived.ProofKit
import Derived.OpenShut
import Derived.Deep.DeepHandedRow
import Derived.Lib.LaidTab
import Derived.Stop.LaidErr
import Derived.Lib.SmallJoins
namespace Go.Proofs.YtdgphhpeebieaaaDoor.chanceRates
open Go.ChangeShapes Go.WideShapes Go.ChangeAt Go.RowKit
set_option linter.unusedVariables false

theorem walk (a0 b0 c0 e0 : Int) (wa0 : (Lit.int .u64 a0).wf = true) (wb0 : (Lit.int .u64 b0).wf = true) (wc0 : (Lit.int .u64 c0).wf = true) (we0 : (Lit.int .u64 e0).wf = true) (w : World) (hT : Tab16 w) :
    Calls Tryd.prog 6 #[.agg #[.int .u64 a0, .int .u64 b0, .int .u64 c0, .int .u64 e0]] w fun e w' => e = .returned (.bool true) ∧ Below w.heap.size w w' :=
  rates_walk a0 b0 c0 e0 wa0 wb0 wc0 we0 w hT

theorem laid_is : Rows.chanceRatesRow.laid = laid3 := by kernel_rfl

set_option maxRecDepth 100000 in
theorem contract (H : Type) (enc : TypeId × Value → H) (W : World) (base : Nat) (args : Array Value) (ds gs : List (DataW H)) (before : List MemPlace)
    (hval : ∀ (j : Nat) t v, Tryd.f6.params[j]? = some t → args[j]? = some v → Value.okWide Tryd.prog W .any base t v)
    (hW : DataW.Whole enc Tryd.prog Tryd.f6.params.toList Rows.chanceRatesSpec.vars false W args.toList ds gs before) (hL : laidMetH Tryd.prog Rows.chanceRatesRow.laid W) :
    Calls Tryd.prog 6 args W fun e W' => ∃ v, e = .returned v ∧ Rows.chanceRatesSpec.post enc Tryd.prog Tryd.f6 false true false false W args v W' := by
  rw [laid_is] at hL
  have hT := tab16_laid hL
  clear hL
  have hW' := hW
  obtain ⟨p, q, hA0, hV, rfl, hfz, hnd⟩ := hW
  have hA : DataW.TrodAll enc Tryd.prog W 0 (fun _ => true) true Tryd.f6.params.toList args.toList ds p := hA0
  rw [Tryd.params6] at hA hval
  obtain ⟨v0, vs0, d0, ds0, p0, q0, hargs, rfl, rfl, h0, r0⟩ := trodAll_cons hA
  obtain ⟨rfl, rfl, rfl⟩ := trodAll_nil r0
  obtain rfl : args = #[v0] := by cases args; simp_all
  obtain ⟨rfl, rfl⟩ := trodVars_none hV
  obtain ⟨u0, u1, u2, u3, y0, y1, y2, y3, nn, rfl, rfl, rfl, t0, t1, t2, t3⟩ := Joins.open_agg4 Tryd.underlying37 (by kernel_rfl) (by kernel_rfl) (hval 0 37 v0 rfl rfl) h0
  obtain ⟨a0, x0, z0, wa0⟩ := DataW.trod_int Tryd.underlying22 t0
  simp only [List.cons.injEq, and_true] at x0
  subst x0 z0
  obtain ⟨b0, x1, z1, wb0⟩ := DataW.trod_int Tryd.underlying22 t1
  simp only [List.cons.injEq, and_true] at x1
  subst x1 z1
  obtain ⟨c0, x2, z2, wc0⟩ := DataW.trod_int Tryd.underlying22 t2
  simp only [List.cons.injEq, and_true] at x2
  subst x2 z2
  obtain ⟨e0, x3, z3, we0⟩ := DataW.trod_int Tryd.underlying22 t3
  simp only [List.cons.injEq, and_true] at x3
  subst x3 z3
  clear hA0
  simp only [List.append_nil] at hW'
  refine (walk a0 b0 c0 e0 wa0 wb0 wc0 we0 W hT).mono fun e W' ⟨he, hg⟩ => ?_
  subst he
  exact ⟨_, rfl, post_below (pa := []) (pv := []) hW' (fun _ _ _ => trodAll_cons_mk (shut_bool Tryd.underlying4 _) trodAll_mk0) (fun _ _ => (trodAll_cons_mk (Joins.shut_agg4 (y0 := (.lit (.int .u64 a0), [])) (y1 := (.lit (.int .u64 b0), [])) (y2 := (.lit (.int .u64 c0), [])) (y3 := (.lit (.int .u64 e0), [])) Tryd.underlying37 (by kernel_rfl) (by kernel_rfl) ⟨1, by simp [DataW.trod, Tryd.underlying22, wa0]⟩ ⟨1, by simp [DataW.trod, Tryd.underlying22, wb0]⟩ ⟨1, by simp [DataW.trod, Tryd.underlying22, wc0]⟩ ⟨1, by simp [DataW.trod, Tryd.underlying22, we0]⟩) trodAll_mk0)) (fun _ _ => rfl) rfl
    hg (ok_one (by kernel_rfl) rfl (okWide_bool_mk Tryd.underlying4 _))⟩

theorem laid_met (os : Os) : laidMet Tryd.prog Rows.chanceRatesRow.laid ((laidWorld os).forCall (fun _ _ => 0) ⟨#[], #[.agg #[.int .u64 0, .int .u64 0, .int .u64 0, .int .u64 0]], []⟩).memory :=
  laidMet_of_run' 8 (by kernel_rfl) (by kernel_rfl)
theorem reads (os : Os) {H : Type} (enc : TypeId × Value → H) : ∃ places, DataW.whole enc Tryd.prog ((laidWorld os).forCall (fun _ _ => 0) ⟨#[], #[.agg #[.int .u64 0, .int .u64 0, .int .u64 0, .int .u64 0]], []⟩).memory Tryd.f6.params.toList Rows.chanceRatesSpec.vars false (#[.agg #[.int .u64 0, .int .u64 0, .int .u64 0, .int .u64 0]] : Array Value).toList 8 = some ([.agg [.lit (.int .u64 0), .lit (.int .u64 0), .lit (.int .u64 0), .lit (.int .u64 0)]], [], places) :=
  ⟨[], by kernel_rfl⟩

set_option maxRecDepth 100000 in
theorem lifted (os : Os) (started : os.Started) (H : Type) (enc : TypeId × Value → H) (F : Stop.Interp) :
    ReturnsInHanded {} Tryd.checked os 6 .any ((OpenSpec.ofChange Rows.chanceRatesSpec).preRow enc Tryd.prog Tryd.f6 Rows.chanceRatesRow.domain false Rows.chanceRatesRow.laid) (((OpenSpec.ofChange Rows.chanceRatesSpec).at F).post enc Tryd.prog Tryd.f6 false true false false) := by
  obtain ⟨places, hx⟩ := reads os enc
  refine returnsInHanded_of_row (C := Tryd.checked) (s := OpenSpec.ofChange Rows.chanceRatesSpec) own started (by kernel_rfl) Tryd.func6
    (witness_row_at (enc := enc) (C := Tryd.checked) false (laidWorld os) #[.agg #[.int .u64 0, .int .u64 0, .int .u64 0, .int .u64 0]] rfl (by kernel_rfl) (by kernel_rfl) (by kernel_rfl)
      (OpenSpec.preRow_of_cond 8 hx (by kernel_rfl) (fun k hk => by cases hk) (by kernel_rfl) (laid_met os))) ?_
  intro W base args ds gs before hval hW _ _ _ hL _ _
  exact contract H enc W base args ds gs before hval hW hL

theorem said : Rows.ChanceRatesSaid :=
  OpenClaim.holds_of_cond 6 Tryd.f6 rfl rfl rfl rfl rfl rfl rfl ⟨rfl, rfl, rfl, rfl, rfl⟩ rfl rfl rfl rfl rfl (by kernel_rfl) Tryd.func6 (by kernel_rfl)
    (of_decide_eq_true (by kernel_rfl)) (by unfold Func.isWrapper; first | (rw [if_pos (by decide +kernel)]; kernel_rfl) | (rw [if_neg (by decide +kernel)]; exact ⟨rfl, rfl⟩))
    (fun os started H enc _ F => by rw [OpenClaim.pre_eq_preRow]; exact lifted os started H enc F)

theorem plain (f : FuncId) (fn : Func) (hf : Tryd.pinned.checked.prog.funcNamed "bandolier/bandolierlaw04.ChanceRates" = some f) (hfn : Tryd.pinned.checked.prog.funcs[f]? = some fn) :
    true = Tryd.pinned.checked.prog.looks [] ∧ ∀ (j : Nat) t, fn.params[j]? = some t → Tryd.pinned.checked.prog.wantsStandIn t = false := by
  obtain rfl : f = 6 := Option.some.inj ((show Tryd.prog.funcNamed "bandolier/bandolierlaw04.ChanceRates" = some 6 by kernel_rfl).symm.trans hf) |>.symm
  obtain rfl : fn = Tryd.f6 := (Option.some.inj (Tryd.func6.symm.trans hfn)).symm
  refine ⟨by kernel_rfl, fun j t ht => ?_⟩
  rw [Tryd.params6] at ht
  have hm := Array.mem_of_getElem? ht
  simp only [List.mem_toArray, List.mem_cons, List.mem_nil_iff, or_false] at hm
  subst hm
  exact (show Tryd.prog.wantsStandIn 37 = false by kernel_rfl)
/-- ████ THE CARD ████ -/
theorem card : Rows.ChanceRatesCardSaid :=
  Claim7.holds_tied_plain_at .later [] _ _ _ _ said (fun _ h => by cases h) (by kernel_rfl) (fun _ h => by cases h) chanceRates_row_tie rfl ⟨rfl, rfl⟩ (by kernel_rfl) rfl plain (by kernel_rfl)
#print axioms card
end Go.Proofs.YtdgphhpeebieaaaDoor.chanceRates
