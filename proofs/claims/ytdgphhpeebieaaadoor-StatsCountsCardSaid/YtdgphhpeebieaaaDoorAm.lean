/-
  WALK: ChanceAdmits: of any bits of a number it is let in just as the document says.
-/
import Derived.Test.YtdgphhpeebieaaaDoorCa
import Derived.Test.YtdgphhpeebieaaaDoorRa
namespace Go.Proofs.YtdgphhpeebieaaaDoor
open Go.RowKit FP
set_option linter.unusedVariables false

theorem inf_up (w : World) :
    Calls Tryd.prog 20 #[.int .i64 1] w fun e w' => e = .returned (.float .f64 9218868437227405312) ∧ w = w' := by
  go_enter Tryd.func20, Tryd.ntmps20
  go_wp2
  go_ret
  exact ⟨rfl, rfl⟩
theorem inf_down (w : World) :
    Calls Tryd.prog 20 #[.int .i64 (-1)] w fun e w' => e = .returned (.float .f64 18442240474082181120) ∧ w = w' := by
  go_enter Tryd.func20, Tryd.ntmps20
  go_wp2
  go_ret
  exact ⟨rfl, rfl⟩
theorem nan_any (w : World) :
    Calls Tryd.prog 21 #[] w fun e w' => e = .returned (.float .f64 9221120237041090561) ∧ w = w' := by
  go_enter Tryd.func21, Tryd.ntmps21
  go_wp2
  go_ret
  exact ⟨rfl, rfl⟩
theorem copysign_any (w : World) :
    Calls Tryd.prog 22 #[.float .f64 0, .float .f64 13830554455654793216] w fun e w' => e = .returned (.float .f64 9223372036854775808) ∧ w = w' := by
  have e1 : bits .andNot .u64 0 9223372036854775808 = 0 := by decide +kernel
  have e2 : bits .and .u64 13830554455654793216 9223372036854775808 = 9223372036854775808 := by decide +kernel
  have e3 : bits .or .u64 0 9223372036854775808 = 9223372036854775808 := by decide +kernel
  go_enter Tryd.func22, Tryd.ntmps22
  go_wp2
  go_ret
  exact ⟨rfl, rfl⟩

theorem admit_inf (d : Nat) : admitW 9218868437227405312 d = true := by
  unfold admitW
  rw [show isNot 9218868437227405312 = false by decide, show K 9218868437227405312 = 9218868437227405312 from rfl, decide_eq_true (show (one : Int) ≤ 9218868437227405312 by unfold one; omega)]
  rfl
theorem admit_ninf (d : Nat) : admitW 18442240474082181120 d = false := by
  unfold admitW
  rw [show K 18442240474082181120 = -9218868437227405312 from rfl, decide_eq_false (show ¬ (0 : Int) < -9218868437227405312 by omega)]
  simp
theorem admit_nan (d : Nat) : admitW 9221120237041090561 d = false := by
  unfold admitW
  rw [show isNot 9221120237041090561 = true by decide]
  rfl
theorem admit_nought (d : Nat) : admitW 9223372036854775808 d = false := by
  unfold admitW
  rw [show K 9223372036854775808 = 0 from rfl, decide_eq_false (show ¬ (0 : Int) < 0 by omega)]
  simp

theorem admits_core (p draw d : Nat) (hp : Hid (Wd p)) (hd : Hid (d = draw / 2048)) (hw : Hid (Wd draw)) (w : World) (hT : Hid (Tab16 w)) :
    Calls Tryd.prog 5 #[.int .u64 p, .int .u64 draw] w fun e w' => e = .returned (.bool true) ∧ Below w.heap.size w w' := by
  obtain ⟨b, hb⟩ : ∃ b, b = admitW p d := ⟨_, rfl⟩
  have Hb := Lib.hid hb.symm
  clear hb
  go_enter Tryd.func5, Tryd.ntmps5
  go_wp2_with fail
  refine (cawake_any _ hT).mono ?_
  rintro e w1 ⟨rfl, hw1⟩
  have W1 := Lib.hid hw1
  clear hw1
  go_wp2_with fail
  refine (admit_any p draw d hp hd hw _).mono ?_
  rintro e w2 ⟨rfl, rfl⟩
  rw [Hb.out]
  go_wp2_with fail
  refine (refAdmit_any p draw d hp hd hw _).mono ?_
  rintro e w2 ⟨rfl, rfl⟩
  rw [Hb.out]
  go_wp2_with fail
  refine (inf_up _).mono ?_
  rintro e w2 ⟨rfl, rfl⟩
  go_wp2_with fail
  refine (admit_any 9218868437227405312 draw d (wd_c _ (by omega)) hd hw _).mono ?_
  rintro e w2 ⟨rfl, rfl⟩
  rw [admit_inf]
  go_wp2_with fail
  refine (inf_down _).mono ?_
  rintro e w2 ⟨rfl, rfl⟩
  go_wp2_with fail
  refine (admit_any 18442240474082181120 draw d (wd_c _ (by omega)) hd hw _).mono ?_
  rintro e w2 ⟨rfl, rfl⟩
  rw [admit_ninf]
  go_wp2_with fail
  refine (nan_any _).mono ?_
  rintro e w2 ⟨rfl, rfl⟩
  go_wp2_with fail
  refine (admit_any 9221120237041090561 draw d (wd_c _ (by omega)) hd hw _).mono ?_
  rintro e w2 ⟨rfl, rfl⟩
  rw [admit_nan]
  go_wp2_with fail
  refine (copysign_any _).mono ?_
  rintro e w2 ⟨rfl, rfl⟩
  go_wp2_with fail
  refine (admit_any 9223372036854775808 draw d (wd_c _ (by omega)) hd hw _).mono ?_
  rintro e w2 ⟨rfl, rfl⟩
  rw [admit_nought]
  go_wp2_with fail
  go_ret
  exact ⟨rfl, W1.out⟩

theorem admits_walk (a0 a1 : Int) (w0 : (Lit.int .u64 a0).wf = true) (w1 : (Lit.int .u64 a1).wf = true) (w : World) (hT : Tab16 w) :
    Calls Tryd.prog 5 #[.int .u64 a0, .int .u64 a1] w fun e w' => e = .returned (.bool true) ∧ Below w.heap.size w w' := by
  have h0 : 0 ≤ a0 ∧ a0 ≤ 18446744073709551615 := bounds_u64 w0
  have h1 : 0 ≤ a1 ∧ a1 ≤ 18446744073709551615 := bounds_u64 w1
  obtain ⟨n, rfl⟩ := Int.eq_ofNat_of_zero_le h0.1
  obtain ⟨m, rfl⟩ := Int.eq_ofNat_of_zero_le h1.1
  exact admits_core n m _ (by show Wd _; unfold Wd; omega) rfl (by show Wd _; unfold Wd; omega) w hT
end Go.Proofs.YtdgphhpeebieaaaDoor
