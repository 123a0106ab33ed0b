/-
  WALK: ChanceRates: rates are none, without end, or on the right side of 1; blends lie from 0 to 1, and at their ends are one of both.
-/
import Derived.Test.YtdgphhpeebieaaaDoorCa
import Derived.Test.YtdgphhpeebieaaaDoorRf
import Derived.Test.YtdgphhpeebieaaaDoorFr
import Derived.Deep.DeepCutAuto
import Derived.Deep.QuietTactic
import Derived.BigQuiet
namespace Go.Proofs.YtdgphhpeebieaaaDoor
open Go.RowKit FP
set_option linter.unusedVariables false

theorem bitsB_self (a : Nat) : bitsB a a = true := by unfold bitsB; simp
theorem tab16_below {w w1 : World} (h : Tab16 w) (hb : Below w.heap.size w w1) : Tab16 w1 :=
  (hb.cell (World.block_lt_of_cell? w _ h)).trans h

set_option maxRecDepth 100000 in
set_option maxHeartbeats 1600000 in
theorem rates_core (a b x y : Nat) (hx : Hid (Wd x)) (hy : Hid (Wd y)) (ha : Hid (a ≤ 18446744073709551615)) (hb : Hid (b ≤ 18446744073709551615)) (w : World) (hT : Hid (Tab16 w)) :
    Calls Tryd.prog 6 #[.agg #[.int .u64 a, .int .u64 b, .int .u64 x, .int .u64 y]] w fun e w' => e = .returned (.bool true) ∧ Below w.heap.size w w' := by
  go_enter Tryd.func6, Tryd.ntmps6
  go_wp2_with fail
  refine (cawake_any _ (tab16_alloc hT)).mono ?_
  rintro e w1 ⟨rfl, hw1⟩
  have HB := Lib.hid ((Blk.new w 37 #[.int .u64 a, .int .u64 b, .int .u64 x, .int .u64 y]).below hw1 (Blk.new w 37 #[.int .u64 a, .int .u64 b, .int .u64 x, .int .u64 y]).lt)
  have W1 := Lib.hid (((Below.refl w.heap.size w).alloc (Nat.le_refl _) (.cells #[.int .u64 a, .int .u64 b, .int .u64 x, .int .u64 y] 37)).trans (hw1.mono (by simp)))
  have c0 : w1.cell? ⟨w.heap.size, 0, none⟩ = some (.int .u64 a) := HB.out.cell 0
  have c1 : w1.cell? ⟨w.heap.size, 1, none⟩ = some (.int .u64 b) := HB.out.cell 1
  have c2 : w1.cell? ⟨w.heap.size, 2, none⟩ = some (.int .u64 x) := HB.out.cell 2
  have c3 : w1.cell? ⟨w.heap.size, 3, none⟩ = some (.int .u64 y) := HB.out.cell 3
  clear hw1
  go_wp2_with fail
  go_quiet (fail)
  go_wp2_with fail
  refine (ratio_any a b ha.out hb.out _).mono ?_
  rintro e w2 ⟨r, hr, rfl, n, rfl⟩
  have Hr := Lib.hid hr
  clear hr
  have Hw : Hid (Wd r) := Hr.out.1
  have WW := Lib.hid (below_drewN W1.out (nq + n))
  have HT : Hid (Tab16 (w1.drewN (nq + n))) := by
    have h1 := tab16_below hT W1.out
    exact h1
  clear c0 c1 c2 c3 HB
  go_upto_block 0 with (fail)
  go_cut [26, 36, 42] (fun _ _ _ wx => Below w.heap.size w wx)
  case first =>
    by_cases zb : b = 0
    · by_cases za : a = 0
      · have Hn := Lib.hid (Hr.out.2.1 za zb)
        subst za zb
        go_wp2_with fail
        refine (refNot_any r Hw _).mono ?_
        rintro e w2 ⟨rfl, rfl⟩
        rw [Hn.out]
        go_wp2_with fail
        go_meet
        exact WW.out
      · have hq : r = 9218868437227405312 := by rw [Hr.out.2.2 (fun h _ => za h), zb]; exact ratio_inf (by omega) (by have := ha.out; omega)
        have g1 : ((a : Int) == 0) = false := beq_eq_false_iff_ne.2 (by omega)
        subst zb hq
        clear za
        go_wp2_with fail
        refine (text_any _ Hw _ HT).mono ?_
        rintro e w2 ⟨rfl, hw2⟩
        have W2 := Lib.hid (WW.out.trans (hw2.mono WW.out.size))
        clear hw2
        rw [show textL 9218868437227405312 = [97, 108, 108] by decide +kernel]
        go_wp2_with fail
        go_meet
        exact W2.out
    · have g2 : ((b : Int) == 0) = false := beq_eq_false_iff_ne.2 (by omega)
      have hq := Hr.out.2.2 (fun _ h => zb h)
      by_cases za : a = 0
      · have hq2 : r = 0 := by rw [hq, za]; exact ratio_nought (by omega) (by have := hb.out; omega)
        have Hl : Hid (lessB 4607182418800017408 r = false) := by rw [hq2]; rfl
        have g3 : (a : Int) ≤ b := by omega
        have g5 : ¬ (b : Int) ≤ a := by omega
        subst za hq2
        clear zb hq
        go_wp2_with fail
        refine (refLess_any 4607182418800017408 0 one_wd Hw _).mono ?_
        rintro e w2 ⟨rfl, rfl⟩
        rw [Hl.out]
        go_wp2_with fail
        go_meet
        exact WW.out
      · have g1 : ((a : Int) == 0) = false := beq_eq_false_iff_ne.2 (by omega)
        obtain ⟨q1, q2, q3⟩ := ratio_rung (a := a) (b := b) (by omega) (by omega) (by have := ha.out; omega) (by have := hb.out; omega)
        rw [← hq] at q1 q2 q3
        rcases Nat.lt_trichotomy a b with h | h | h
        · have Hl : Hid (lessB 4607182418800017408 r = false) := by
            have h1 := q2 (by omega); unfold one at h1
            show _ = _; unfold lessB L; exact decide_eq_false (by rw [if_pos (by omega), if_pos (by omega)]; omega)
          have g3 : (a : Int) ≤ b := by omega
          have g5 : ¬ (b : Int) ≤ a := by omega
          clear zb za hq q1 q2 q3 h
          go_wp2_with fail
          refine (refLess_any 4607182418800017408 r one_wd Hw _).mono ?_
          rintro e w2 ⟨rfl, rfl⟩
          rw [Hl.out]
          go_wp2_with fail
          go_meet
          exact WW.out
        · have Hl : Hid (lessB 4607182418800017408 r = false) := by
            have h1 := q2 (by omega); unfold one at h1
            show _ = _; unfold lessB L; exact decide_eq_false (by rw [if_pos (by omega), if_pos (by omega)]; omega)
          have Hm : Hid (lessB r 4607182418800017408 = false) := by
            have h1 := q3 (by omega); unfold one at h1
            show _ = _; unfold lessB L; exact decide_eq_false (by rw [if_pos (by omega), if_pos (by omega)]; omega)
          subst h
          clear zb za hq q1 q2 q3
          go_wp2_with fail
          refine (refLess_any 4607182418800017408 r one_wd Hw _).mono ?_
          rintro e w2 ⟨rfl, rfl⟩
          rw [Hl.out]
          go_wp2_with fail
          refine (refLess_any r 4607182418800017408 Hw one_wd _).mono ?_
          rintro e w2 ⟨rfl, rfl⟩
          rw [Hm.out]
          go_wp2_with fail
          go_meet
          exact WW.out
        · have Hm : Hid (lessB r 4607182418800017408 = false) := by
            have h1 := q3 (by omega); unfold one at h1
            show _ = _; unfold lessB L; exact decide_eq_false (by rw [if_pos (by omega), if_pos (by omega)]; omega)
          have g3 : ¬ (a : Int) ≤ b := by omega
          have g5 : (b : Int) ≤ a := by omega
          clear zb za hq q1 q2 q3 h
          go_wp2_with fail
          refine (refLess_any r 4607182418800017408 Hw one_wd _).mono ?_
          rintro e w2 ⟨rfl, rfl⟩
          rw [Hm.out]
          go_wp2_with fail
          go_meet
          exact WW.out
  case rest =>
    have WC := Lib.hid hcut
    clear hcut
    obtain ⟨q, hq⟩ : ∃ q, q = blendW x y r := ⟨_, rfl⟩
    have hq1 : q ≤ one := by rw [hq]; exact blendW_le _ _ _
    have HW := Lib.hid hq.symm
    have Hq : Hid (Wd q) := le_one_wd hq1
    have Hn := Lib.hid (isNot_le_one hq1)
    have Hl : Hid (lessB q 0 = false) := by
      show _ = _; unfold lessB L; unfold one at hq1; exact decide_eq_false (by rw [if_pos (by omega), if_pos (by omega)]; omega)
    have Hm : Hid (lessB 4607182418800017408 q = false) := by
      show _ = _; unfold lessB L; unfold one at hq1; exact decide_eq_false (by rw [if_pos (by omega), if_pos (by omega)]; omega)
    have Hcx : Hid (Wd (clampW x)) := clampW_wd x
    have Hcy : Hid (Wd (clampW y)) := clampW_wd y
    clear hq hq1
    cases hs : lessB (clampW y) (clampW x)
    all_goals
      have Hs := Lib.hid hs
      clear hs
      go_wp2_with fail
      refine (clamp_any x hx _).mono ?_
      rintro e w2 ⟨rfl, rfl⟩
      go_wp2_with fail
      refine (refClamp_any x hx _).mono ?_
      rintro e w2 ⟨rfl, rfl⟩
      go_wp2_with fail
      refine (bits_any (clampW x) (clampW x) Hcx Hcx _).mono ?_
      rintro e w2 ⟨rfl, rfl⟩
      rw [bitsB_self]
      go_wp2_with fail
      refine (clamp_any x hx _).mono ?_
      rintro e w2 ⟨rfl, rfl⟩
      go_wp2_with fail
      refine (clamp_any (clampW x) Hcx _).mono ?_
      rintro e w2 ⟨rfl, rfl⟩
      rw [clampW_self (clampW_le x)]
      go_wp2_with fail
      refine (clamp_any x hx _).mono ?_
      rintro e w2 ⟨rfl, rfl⟩
      go_wp2_with fail
      refine (bits_any (clampW x) (clampW x) Hcx Hcx _).mono ?_
      rintro e w2 ⟨rfl, rfl⟩
      rw [bitsB_self]
      go_wp2_with fail
      refine (blend_any x y r hx hy Hw _).mono ?_
      rintro e w2 ⟨rfl, rfl⟩
      rw [HW.out]
      go_wp2_with fail
      refine (clamp_any x hx _).mono ?_
      rintro e w2 ⟨rfl, rfl⟩
      go_wp2_with fail
      refine (clamp_any y hy _).mono ?_
      rintro e w2 ⟨rfl, rfl⟩
      go_wp2_with fail
      refine (refLess_any (clampW y) (clampW x) Hcy Hcx _).mono ?_
      rintro e w2 ⟨rfl, rfl⟩
      rw [Hs.out]
      go_wp2_with fail
      refine (blend_any x y 0 hx hy (show Wd 0 by unfold Wd; omega) _).mono ?_
      rintro e w2 ⟨rfl, rfl⟩
      rw [blendW_none x y 0 rfl]
      go_wp2_with fail
      refine (clamp_any x hx _).mono ?_
      rintro e w2 ⟨rfl, rfl⟩
      go_wp2_with fail
      refine (bits_any (clampW x) (clampW x) Hcx Hcx _).mono ?_
      rintro e w2 ⟨rfl, rfl⟩
      rw [bitsB_self]
      go_wp2_with fail
      refine (blend_any x x r hx hx Hw _).mono ?_
      rintro e w2 ⟨rfl, rfl⟩
      rw [blendW_same]
      go_wp2_with fail
      refine (clamp_any x hx _).mono ?_
      rintro e w2 ⟨rfl, rfl⟩
      go_wp2_with fail
      refine (bits_any (clampW x) (clampW x) Hcx Hcx _).mono ?_
      rintro e w2 ⟨rfl, rfl⟩
      rw [bitsB_self]
      go_wp2_with fail
      refine (refNot_any q Hq _).mono ?_
      rintro e w2 ⟨rfl, rfl⟩
      rw [Hn.out]
      go_wp2_with fail
      refine (refLess_any q 0 Hq (show Wd 0 by unfold Wd; omega) _).mono ?_
      rintro e w2 ⟨rfl, rfl⟩
      rw [Hl.out]
      go_wp2_with fail
      refine (refLess_any 4607182418800017408 q one_wd Hq _).mono ?_
      rintro e w2 ⟨rfl, rfl⟩
      rw [Hm.out]
      go_wp2_with fail
      go_ret
      exact ⟨rfl, WC.out⟩

theorem rates_walk (a b x y : Int) (w0 : (Lit.int .u64 a).wf = true) (w1 : (Lit.int .u64 b).wf = true) (w2 : (Lit.int .u64 x).wf = true) (w3 : (Lit.int .u64 y).wf = true) (w : World) (hT : Tab16 w) :
    Calls Tryd.prog 6 #[.agg #[.int .u64 a, .int .u64 b, .int .u64 x, .int .u64 y]] w fun e w' => e = .returned (.bool true) ∧ Below w.heap.size w w' := by
  have h0 : 0 ≤ a ∧ a ≤ 18446744073709551615 := bounds_u64 w0
  have h1 : 0 ≤ b ∧ b ≤ 18446744073709551615 := bounds_u64 w1
  have h2 : 0 ≤ x ∧ x ≤ 18446744073709551615 := bounds_u64 w2
  have h3 : 0 ≤ y ∧ y ≤ 18446744073709551615 := bounds_u64 w3
  obtain ⟨n, rfl⟩ := Int.eq_ofNat_of_zero_le h0.1
  obtain ⟨m, rfl⟩ := Int.eq_ofNat_of_zero_le h1.1
  obtain ⟨k, rfl⟩ := Int.eq_ofNat_of_zero_le h2.1
  obtain ⟨l, rfl⟩ := Int.eq_ofNat_of_zero_le h3.1
  exact rates_core n m k l (by show Wd _; unfold Wd; omega) (by show Wd _; unfold Wd; omega) (by show n ≤ _; omega) (by show m ≤ _; omega) w hT
end Go.Proofs.YtdgphhpeebieaaaDoor
