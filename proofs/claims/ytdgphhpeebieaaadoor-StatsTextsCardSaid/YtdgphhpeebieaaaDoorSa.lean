/-
  WALKS: the fixed fact of layer 22 (awake).
-/
import Derived.Test.YtdgphhpeebieaaaDoorSw
namespace Go.Proofs.YtdgphhpeebieaaaDoor
open Go.RowKit FP
set_option linter.unusedVariables false

theorem half_blend : blendW 0 one 4602678819172646912 = 4602678819172646912 := by decide +kernel
theorem quarter_blend : blendW 4602678819172646912 0 4602678819172646912 = 4598175219545276416 := by decide +kernel
theorem half_ratio : ratioW 1 2 = 4602678819172646912 := by decide +kernel
theorem half_half : (FloatKind.f64.format.order 4602678819172646912 4602678819172646912 == some Ordering.eq) = true := by decide +kernel
theorem quarter_quarter : (FloatKind.f64.format.order 4598175219545276416 4598175219545276416 == some Ordering.eq) = true := by decide +kernel
theorem half_wd : Hid (Wd 4602678819172646912) := by show Wd _; unfold Wd; omega
theorem zero_wd : Hid (Wd 0) := by show Wd _; unfold Wd; omega
theorem zero_ct : Hid (Ct 0) := by show Ct _; unfold Ct; omega

theorem sawake_any (w : World) :
    Calls Tryd.prog 32 #[] w fun e w' => e = .returned (.bool true) ∧ Below w.heap.size w w' := by
  have e1 := half_half
  have e2 := quarter_quarter
  go_enter Tryd.func32, Tryd.ntmps32
  go_wp2_with fail
  refine (asked_hit w.heap.size 0 0 0 0 0 0 0 0 0 _ _ (Blk.new w _ _) zero_ct zero_ct zero_wd half_wd).mono ?_
  rintro e w1 ⟨rfl, hb1, hg1⟩
  rw [half_blend] at hb1
  have B1 := Lib.hid hb1; have G1 := Lib.hid hg1; clear hb1 hg1
  go_wp2_with fail
  refine (asked_miss w.heap.size _ _ 0 0 0 0 0 0 _ _ _ B1 ct_one half_wd half_wd).mono ?_
  rintro e w2 ⟨rfl, hb2, hg2⟩
  rw [quarter_blend] at hb2
  rw [show sumU (sumU 0 1) 1 = 2 from rfl, show sumU 0 1 = 1 from rfl] at hb2
  obtain ⟨c0, c1, c2, c3, c4, c5, c6, c7, c8⟩ := blk9 hb2
  have hz := hb2.lt
  have B2 := Lib.hid hb2; have G2 := Lib.hid hg2; clear hb2 hg2
  go_wp2_with fail
  refine (rate_any 2 1 0 0 0 0 0 0 _ (by omega) (by omega) _).mono ?_
  rintro e w3 ⟨q, hq, rfl, hw3⟩
  obtain rfl : q = 4602678819172646912 := (hq.2.2 (by omega)).trans half_ratio
  have B3 := Lib.hid (B2.out.below hw3 hz)
  have hz3 := B3.out.lt
  obtain ⟨d0, d1, d2, d3, d4, d5, d6, d7, d8⟩ := blk9 B3.out
  have W3 := Lib.hid hw3
  clear hq hw3 c0 c1 c2 c3 c4 c5 c6 c7 c8 hz
  go_wp2_with fail
  refine (going_any _ _ _ _ _ _ _ _ _ _).mono ?_
  rintro e w4 ⟨rfl, hw4⟩
  have B4 := Lib.hid (B3.out.below hw4 hz3)
  have hz4 := B4.out.lt
  obtain ⟨c0, c1, c2, c3, c4, c5, c6, c7, c8⟩ := blk9 B4.out
  have W4 := Lib.hid hw4
  clear hw4 d0 d1 d2 d3 d4 d5 d6 d7 d8 hz3
  go_wp2_with fail
  refine (count_any 0 (by omega) 2 _ (by exact rfl) _).mono ?_
  rintro e w5 ⟨rfl, hw5⟩
  have B5 := Lib.hid (B4.out.below hw5 hz4)
  have hz5 := B5.out.lt
  obtain ⟨d0, d1, d2, d3, d4, d5, d6, d7, d8⟩ := blk9 B5.out
  have W5 := Lib.hid hw5
  clear hw5 c0 c1 c2 c3 c4 c5 c6 c7 c8 hz4
  go_wp2_with fail
  refine (count_any 1 (by omega) 1 _ (by exact rfl) _).mono ?_
  rintro e w6 ⟨rfl, hw6⟩
  have W6 := Lib.hid hw6
  clear hw6
  go_wp2_with fail
  go_ret
  refine ⟨rfl, ?_⟩
  have b0 : Below w.heap.size w (w.alloc (Obj.cells (cellsOf 0 0 0 0 0 0 0 0 0) 48)) := (Below.refl _ _).alloc (Nat.le_refl _) _
  have b1 := below_gb b0 G1.out (by simp) (Nat.le_refl _)
  have b2 := below_gb b1 G2.out b1.size (Nat.le_refl _)
  have b3 := b2.trans (W3.out.mono b2.size)
  have b4 := b3.trans (W4.out.mono b3.size)
  have b5 := b4.trans (W5.out.mono b4.size)
  exact b5.trans (W6.out.mono b5.size)
end Go.Proofs.YtdgphhpeebieaaaDoor
