/-
  AN ARGUMENT THAT IS A SLICE OF EVENTS, opened to cells; and the walk of StatsAnd at such arguments.
-/
import Derived.Test.YtdgphhpeebieaaaDoorSc
import Derived.Test.YtdgphhpeebieaaaDoorLw
import Derived.Deep.Slices
import Derived.ChangeSame
import Derived.OpenShut
import Derived.IntWalk
namespace Go.Proofs.YtdgphhpeebieaaaDoor
open Go.RowKit Go.ChangeShapes Go.WideShapes
set_option linter.unusedVariables false

theorem slot1 {α : Type} {c : List α} (h : c.length = 4) : ∃ c0 c1 c2 c3, c = [c0, c1, c2, c3] := by
  rcases c with _ | ⟨c0, _ | ⟨c1, _ | ⟨c2, _ | ⟨c3, _ | ⟨c4, c⟩⟩⟩⟩⟩ <;> simp at h
  exact ⟨_, _, _, _, rfl⟩

theorem ev_open {H : Type} {enc : TypeId × Value → H} {W : World} {base : Nat} {sp : Nat → Bool} {held : Bool} {fuel : Nat} {cs : List Value} {x : DataW H × List MemPlace} (h : DataW.trod enc Tryd.prog W base sp held fuel 74 cs = some x) :
    ∃ (k n : Int) (b : Bool) (m : Int), cs = [.int .i64 k, .int .u64 n, .bool b, .int .u64 m] ∧ (Lit.int .u64 n).wf = true ∧ (Lit.int .u64 m).wf = true := by
  obtain ⟨ys, n', hn', hy, hlen, hyl, hf⟩ := DataW.trod_struct Tryd.underlying74 h
  obtain ⟨c0, c1, c2, c3, rfl⟩ := slot1 (hlen.trans (by kernel_rfl))
  obtain ⟨y0, y1, y2, y3, rfl⟩ := slot1 hyl
  have h0 := hf 0 _ rfl
  have h1 := hf 1 _ rfl
  have h2 := hf 2 _ rfl
  have h3 := hf 3 _ rfl
  have e1 : Tryd.prog.cellsOf 3 = 1 := by kernel_rfl
  have e2 : Tryd.prog.cellsOf 22 = 1 := by kernel_rfl
  have e3 : Tryd.prog.cellsOf 4 = 1 := by kernel_rfl
  simp [e1, e2, e3] at h0 h1 h2 h3
  obtain ⟨k, g0, -, -⟩ := DataW.trod_int Tryd.underlying3 h0
  obtain ⟨n, g1, -, w1⟩ := DataW.trod_int Tryd.underlying22 h1
  obtain ⟨b, g2, -⟩ := DataW.trod_bool Tryd.underlying4 h2
  obtain ⟨m, g3, -, w3⟩ := DataW.trod_int Tryd.underlying22 h3
  simp only [List.cons.injEq, and_true] at g0 g1 g2 g3
  subst g0 g1 g2 g3
  exact ⟨k, n, b, m, rfl, w1, w3⟩

set_option maxRecDepth 100000 in
theorem evs_open {H : Type} {enc : TypeId × Value → H} {W : World} {base : Nat} {v : Value} {d : DataW H} {ps : List MemPlace} (hv : Value.okWide Tryd.prog W .any base 45 v)
    (h : DataW.Trod enc Tryd.prog W 0 (fun _ => true) true 45 v d ps) : Evs W v := by
  obtain ⟨A, len, cap, rfl⟩ := okWide_slice Tryd.underlying45 hv
  obtain ⟨fuel, hf⟩ := h
  rcases Go.Deep.open_slice Tryd.underlying45 hf with ⟨hcs, _⟩ | ⟨a, len', cap', m, n, D, Pl, hcs, _, hl, hm, hmm, _, hi⟩
  · simp only [Value.cells, List.cons.injEq, Value.slice.injEq, and_true] at hcs
    obtain ⟨rfl, rfl, rfl⟩ := hcs
    exact ⟨none, 0, 0, rfl, Nat.le_refl _, Nat.zero_le _, fun i hi => absurd hi (Nat.not_lt_zero _)⟩
  · simp only [Value.cells, List.cons.injEq, Value.slice.injEq, and_true] at hcs
    obtain ⟨rfl, rfl, rfl⟩ := hcs
    refine ⟨some a, len, cap, rfl, hl, hm, fun i hlt => ⟨a, rfl, ?_⟩⟩
    obtain ⟨cs', hc, ht⟩ := hi i (by rw [hmm, if_pos rfl]; omega)
    have e4 : Tryd.prog.cellsOf 74 = 4 := by kernel_rfl
    rw [e4] at hc
    obtain ⟨k, n', b, m', rfl, w1, w3⟩ := ev_open ht
    obtain ⟨_, -, hat⟩ := World.cells?_some hc
    have h1 : 0 ≤ n' ∧ n' ≤ 18446744073709551615 := bounds_u64 w1
    have h3 : 0 ≤ m' ∧ m' ≤ 18446744073709551615 := bounds_u64 w3
    obtain ⟨n1, rfl⟩ := Int.eq_ofNat_of_zero_le h1.1
    obtain ⟨m1, rfl⟩ := Int.eq_ofNat_of_zero_le h3.1
    have g0 := hat 0 (by omega)
    refine ⟨k, n1, b, m1, World.block_lt_of_cell? W _ g0, g0, hat 1 (by omega), hat 2 (by omega), hat 3 (by omega), by omega, by omega⟩

theorem pow10_eq : tab10 = Lib.pow10Tab := by decide +kernel
theorem and_walk {v0 v1 v2 : Value} {w : World} (h0 : Evs w v0) (h1 : Evs w v1) (h2 : Evs w v2) (hT : Tab16 w) (h10 : Lib.TabIs Tryd.prog w "internal/strconv.uint64pow10" .u64 tab10) :
    Calls Tryd.prog 9 #[v0, v1, v2] w fun e w' => e = .returned (.bool true) ∧ Below w.heap.size w w' := by
  obtain ⟨A1, len1, cap1, rfl, hl1, hm1, he1⟩ := h0
  obtain ⟨A2, len2, cap2, rfl, hl2, hm2, he2⟩ := h1
  obtain ⟨A3, len3, cap3, rfl, hl3, hm3, he3⟩ := h2
  exact statsAnd_walk A1 A2 A3 len1 cap1 len2 cap2 len3 cap3 ⟨hl1, hm1⟩ ⟨hl2, hm2⟩ ⟨hl3, hm3⟩ w he1 he2 he3 hT (by show Lib.TabIs _ _ _ _ _; rw [← pow10_eq]; exact h10)
end Go.Proofs.YtdgphhpeebieaaaDoor
