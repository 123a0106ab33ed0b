/-
  WALKS: math.Ldexp at -53, of a count up to 2^53.
-/
import Derived.Test.YtdgphhpeebieaaaDoorCo
import Derived.Laws.BitsAllLaws
namespace Go.Proofs.YtdgphhpeebieaaaDoor
open Go.RowKit FP
set_option linter.unusedVariables false

theorem andNot_sign (x : Nat) (h : x < 18446744073709551616) : bits .andNot .u64 (x : Int) 9223372036854775808 = ((x % 9223372036854775808 : Nat) : Int) := by
  have h1 := u64_andNot_nat x 9223372036854775808 h (by omega)
  have h2 := Nat.and_two_pow_sub_one_eq_mod x 63
  rw [show (18446744073709551615 - 9223372036854775808 : Nat) = 2 ^ 63 - 1 by decide, h2] at h1
  exact h1

theorem abs_any (x ax : Nat) (hx : Hid (Wd x)) (ha : Hid (ax = x % 9223372036854775808)) (w : World) :
    Calls Tryd.prog 62 #[.float .f64 x] w fun e w' => e = .returned (.float .f64 ax) ∧ w = w' := by
  have e := andNot_sign x hx
  rw [← ha.out] at e
  go_enter Tryd.func62, Tryd.ntmps62
  go_wp2
  go_ret
  exact ⟨rfl, rfl⟩

/-- a number from 1 to 2^53, as a word -/
def Mid (x : Nat) : Prop := 4607182418800017408 ≤ x ∧ x ≤ 4845873199050653696
theorem mid_wd {x : Nat} (h : Mid x) : Wd x := by unfold Mid at h; unfold Wd; omega
theorem mid_not {x : Nat} (h : Mid x) : isNot x = false := by unfold Mid at h; unfold isNot; exact decide_eq_false (by omega)
theorem mid_K {x : Nat} (h : Mid x) : K x = x := by unfold Mid at h; unfold K; exact if_pos (by omega)
theorem mid_abs {x : Nat} (h : Mid x) : x = x % 9223372036854775808 := by unfold Mid at h; omega

theorem isInf_mid (x : Nat) (hx : Hid (Mid x)) (w : World) :
    Calls Tryd.prog 49 #[.float .f64 x, .int .i64 0] w fun e w' => e = .returned (.bool false) ∧ w = w' := by
  have g1 : (FloatKind.f64.format.order x 9218868437227405311 == some Ordering.gt) = false := by
    rw [f64_fmt, ord_gt (mid_wd hx.out) (by unfold Wd; omega), mid_K hx.out, show K 9218868437227405311 = 9218868437227405311 from rfl]
    have := hx.out.2
    rw [decide_eq_false (by omega)]; simp
  go_enter Tryd.func49, Tryd.ntmps49
  go_wp2_with fail
  refine (abs_any x x (mid_wd hx.out) (mid_abs hx.out) _).mono ?_
  rintro e w' ⟨rfl, rfl⟩
  go_wp2
  go_ret
  exact ⟨rfl, rfl⟩

theorem normalize_mid (x : Nat) (hx : Hid (Mid x)) (w : World) :
    Calls Tryd.prog 61 #[.float .f64 x] w fun e w' => e = .returned (.tuple #[.float .f64 x, .int .i64 0]) ∧ w = w' := by
  have g1 : (FloatKind.f64.format.order x 4503599627370496 == some Ordering.lt) = false := by
    rw [f64_fmt, ord_lt (mid_wd hx.out) (by unfold Wd; omega), mid_K hx.out, show K 4503599627370496 = 4503599627370496 from rfl]
    have := hx.out.1
    rw [decide_eq_false (by omega)]; simp
  go_enter Tryd.func61, Tryd.ntmps61
  go_wp2_with fail
  refine (abs_any x x (mid_wd hx.out) (mid_abs hx.out) _).mono ?_
  rintro e w' ⟨rfl, rfl⟩
  go_wp2
  go_ret2
  exact ⟨rfl, rfl⟩

theorem i64_and_mask (a : Nat) (h : a < 2048) : bits .and .i64 (a : Int) 2047 = (a : Int) := by
  show IntKind.i64.wrap ((BitVec.ofInt 64 (a : Int) &&& BitVec.ofInt 64 2047).toNat : Int) = _
  rw [BitVec.toNat_and, show (BitVec.ofInt 64 (a : Int)).toNat = a by rw [BitVec.ofInt_natCast, BitVec.toNat_ofNat]; exact Nat.mod_eq_of_lt (by omega)]
  rw [show (BitVec.ofInt 64 2047).toNat = 2 ^ 11 - 1 by decide, Nat.and_two_pow_sub_one_eq_mod, Nat.mod_eq_of_lt h, IntKind.wrap_i64]
  omega
/-- all but the eleven bits of the exponent -/
theorem and_low (x : Nat) (h : x < 9223372036854775808) : x &&& 9227875636482146303 = x % 4503599627370496 := by
  have e : (9227875636482146303 : Nat) = 2 ^ 63 + (2 ^ 52 - 1) := by decide
  apply Nat.eq_of_testBit_eq
  intro i
  rw [Nat.testBit_and, show (4503599627370496 : Nat) = 2 ^ 52 by decide, Nat.testBit_mod_two_pow, e]
  by_cases hi : i < 52
  · rw [Nat.testBit_two_pow_add_gt (by omega), Nat.testBit_two_pow_sub_one]; simp [hi]
  · by_cases h63 : i < 63
    · rw [Nat.testBit_two_pow_add_gt h63, Nat.testBit_two_pow_sub_one]; simp [hi]
    · have hx : x.testBit i = false := Nat.testBit_lt_two_pow (Nat.lt_of_lt_of_le h (by rw [show (9223372036854775808 : Nat) = 2 ^ 63 by decide]; exact Nat.pow_le_pow_right (by omega) (by omega)))
      simp [hx]

theorem ldexp_mid (x : Nat) (hx : Hid (Mid x)) (w : World) :
    Calls Tryd.prog 46 #[.float .f64 x, .int .i64 (-53)] w fun e w' => e = .returned (.float .f64 (x - 238690780250636288)) ∧ w = w' := by
  have g1 : (FloatKind.f64.format.order x 0 == some Ordering.eq) = false := by
    rw [f64_fmt, ord_eq (mid_wd hx.out) (by unfold Wd; omega), mid_K hx.out, show K 0 = 0 from rfl]
    have := hx.out.1
    rw [decide_eq_false (by omega)]; simp
  have g2 := mid_not hx.out
  obtain ⟨e1, he1⟩ : ∃ e1 : Nat, e1 = x / 4503599627370496 := ⟨_, rfl⟩
  obtain ⟨m1, hm1⟩ : ∃ m1 : Nat, m1 = x % 4503599627370496 := ⟨_, rfl⟩
  have b1 : 1023 ≤ (e1 : Int) ∧ (e1 : Int) ≤ 1076 := by have h := hx.out; unfold Mid at h; omega
  obtain ⟨b1, b2⟩ := b1
  have f1 : wrap64 ((x : Int) / 4503599627370496) = (e1 : Int) := by unfold wrap64; have h := hx.out; unfold Mid at h; omega
  have f2 : bits .and .i64 (e1 : Int) 2047 = (e1 : Int) := by
    have h1 := i64_and_mask e1 (by omega)
    exact h1
  have f3 : bits .andNot .u64 (x : Int) 9218868437227405312 = (m1 : Int) := by
    have h1 := u64_andNot_nat x 9218868437227405312 (mid_wd hx.out) (by omega)
    rw [show (18446744073709551615 - 9218868437227405312 : Nat) = 9227875636482146303 by decide] at h1
    rw [hm1]
    refine h1.trans (congrArg _ ?_)
    have h := hx.out; unfold Mid at h
    exact and_low x (by omega)
  have Hx : Hid (x = e1 * 4503599627370496 + m1) := by show _ = _; omega
  have Hm : Hid (m1 < 4503599627370496) := by show _ < _; omega
  have f4 : bits .or .u64 (m1 : Int) ((-53 + ((e1 : Int) - 1023) + 1023) * 4503599627370496) = ((x - 238690780250636288 : Nat) : Int) := by
    have hm : m1 < 4503599627370496 := Hm
    have h1 := u64_or_nat m1 ((e1 - 53) * 4503599627370496) (by omega) (by omega)
    rw [Nat.or_comm, nat_join 52 _ _ (by omega) (by omega)] at h1
    rw [show (-53 + ((e1 : Int) - 1023) + 1023) * 4503599627370496 = (((e1 - 53) * 4503599627370496 : Nat) : Int) by omega, h1]
    have := Hx.out
    omega
  have hy : x - 238690780250636288 < 9218868437227405312 := by have h := hx.out; unfold Mid at h; omega
  obtain ⟨y, hy'⟩ : ∃ y : Nat, y = x - 238690780250636288 := ⟨_, rfl⟩
  rw [← hy'] at f4 hy ⊢
  have r5 := fun w => run_float_arith (P := Tryd.prog) w .mul 24 .f64 4607182418800017408 y y (mul_one_left hy)
  clear he1 hm1 hy hy'
  go_enter Tryd.func46, Tryd.ntmps46
  go_wp2_with fail
  refine (isInf_mid x hx _).mono ?_
  rintro e w' ⟨rfl, rfl⟩
  go_wp2_with fail
  refine (isNaN_any x (mid_wd hx.out) _).mono ?_
  rintro e w' ⟨rfl, rfl⟩
  go_wp2_with fail
  refine (normalize_mid x hx _).mono ?_
  rintro e w' ⟨rfl, rfl⟩
  go_wp2_with fail
  go_ret
  exact ⟨rfl, rfl⟩

theorem ldexp_zero (w : World) :
    Calls Tryd.prog 46 #[.float .f64 0, .int .i64 (-53)] w fun e w' => e = .returned (.float .f64 0) ∧ w = w' := by
  have g1 : (FloatKind.f64.format.order 0 0 == some Ordering.eq) = true := by decide +kernel
  go_enter Tryd.func46, Tryd.ntmps46
  go_wp2_with fail
  go_ret
  exact ⟨rfl, rfl⟩

theorem Ldexp_mid (x : Nat) (hx : Hid (Mid x)) (w : World) :
    Calls Tryd.prog 14 #[.float .f64 x, .int .i64 (-53)] w fun e w' => e = .returned (.float .f64 (x - 238690780250636288)) ∧ w = w' := by
  go_enter Tryd.func14, Tryd.ntmps14
  go_wp2_with fail
  refine (ldexp_mid x hx _).mono ?_
  rintro e w' ⟨rfl, rfl⟩
  go_wp2_with fail
  go_ret
  exact ⟨rfl, rfl⟩
theorem Ldexp_zero (w : World) :
    Calls Tryd.prog 14 #[.float .f64 0, .int .i64 (-53)] w fun e w' => e = .returned (.float .f64 0) ∧ w = w' := by
  go_enter Tryd.func14, Tryd.ntmps14
  go_wp2_with fail
  refine (ldexp_zero _).mono ?_
  rintro e w' ⟨rfl, rfl⟩
  go_wp2_with fail
  go_ret
  exact ⟨rfl, rfl⟩
end Go.Proofs.YtdgphhpeebieaaaDoor
