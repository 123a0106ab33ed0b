/-
  WALK: ChanceCounts: of a chance that is k by 2^53 just k of 2^53 draws are let in.
-/
import Derived.Test.YtdgphhpeebieaaaDoorCa
import Derived.OpenShut
namespace Go.Proofs.YtdgphhpeebieaaaDoor
open Go.RowKit FP
set_option linter.unusedVariables false

/-- math.Ldexp at -53, of a count's word -/
theorem Ldexp_count (k : Nat) (hk : k ≤ 9007199254740992) (w : World) :
    Calls Tryd.prog 14 #[.float .f64 (intW k), .int .i64 (-53)] w fun e w' => e = .returned (.float .f64 (ldW k)) ∧ w = w' := by
  by_cases h0 : k = 0
  · subst h0
    rw [intW_zero]
    exact Ldexp_zero w
  · obtain ⟨_, h1, h2⟩ := intW_exact (by omega) hk
    have h3 := Ldexp_mid (intW k) ⟨h1, h2⟩ w
    rw [show ldW k = intW k - 238690780250636288 from if_neg h0]
    exact h3

/-- the count that the law takes: at most 2^53 -/
theorem counts_core (a k draw d : Nat) (ha : Hid (k = min a 9007199254740992)) (hd : Hid (d = draw / 2048)) (hw : Hid (Wd draw)) (w : World) (hT : Hid (Tab16 w)) :
    Calls Tryd.prog 3 #[.int .u64 a, .int .u64 draw] w fun e w' => e = .returned (.bool true) ∧ Below w.heap.size w w' := by
  have hk : k ≤ 9007199254740992 := by have := ha.out; omega
  have hb : d ≤ 9007199254740991 := by have h1 := hd.out; have h2 := hw.out; unfold Wd at h2; omega
  have e0 := intW_floatOfInt k
  have e1 : (draw : Int) / 2048 = (d : Int) := by have := hd.out; omega
  have Hc := Lib.hid (admit_count hk hb)
  have Hk := Lib.hid hk
  have Hw := Lib.hid (ldW_wd hk)
  clear hb hk
  obtain ⟨b, hb⟩ : ∃ b, b = decide ((d : Int) < (k : Int)) := ⟨_, rfl⟩
  have Hb : Hid (decide (d < k) = b) := by show _ = _; rw [hb]; simp
  have e3 : min (a : Int) 9007199254740992 = (k : Int) := by have := ha.out; omega
  have e2 := hb.symm
  clear hb
  go_enter Tryd.func3, Tryd.ntmps3
  go_wp2_with fail
  refine (cawake_any _ hT).mono ?_
  rintro e w1 ⟨rfl, hw1⟩
  have W1 := Lib.hid hw1
  clear hw1
  go_wp2_with fail
  refine (Ldexp_count k Hk.out _).mono ?_
  rintro e w2 ⟨rfl, rfl⟩
  go_wp2_with fail
  refine (admit_any _ draw d Hw hd hw _).mono ?_
  rintro e w2 ⟨rfl, rfl⟩
  rw [Hc.out, Hb.out]
  go_wp2_with fail
  go_ret
  exact ⟨by have h := Hb.out; simp; exact h.symm, W1.out⟩

theorem counts_walk (a0 a1 : Int) (w0 : (Lit.int .u64 a0).wf = true) (w1 : (Lit.int .u64 a1).wf = true) (w : World) (hT : Tab16 w) :
    Calls Tryd.prog 3 #[.int .u64 a0, .int .u64 a1] w fun e w' => e = .returned (.bool true) ∧ Below w.heap.size w w' := by
  have h0 : 0 ≤ a0 ∧ a0 ≤ 18446744073709551615 := bounds_u64 w0
  have h1 : 0 ≤ a1 ∧ a1 ≤ 18446744073709551615 := bounds_u64 w1
  obtain ⟨n, rfl⟩ := Int.eq_ofNat_of_zero_le h0.1
  obtain ⟨m, rfl⟩ := Int.eq_ofNat_of_zero_le h1.1
  exact counts_core n _ m _ rfl rfl (by show Wd _; unfold Wd; omega) w hT
end Go.Proofs.YtdgphhpeebieaaaDoor
