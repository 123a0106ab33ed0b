/-
  PLAIN: rates: a by b is on the right side of 1. No Go in it.
-/
import Derived.Test.YtdgphhpeebieaaaDoorFq
namespace Go.Proofs.YtdgphhpeebieaaaDoor.FP
open Ieee

theorem R_mono {m1 a1 m2 a2 K e1 e2 : Nat} (b1 : m1 * 2 ^ a1 < 9007199254740992 * 2 ^ (e1 + K)) (c1 : 0 < e1 → 4503599627370496 * 2 ^ (e1 + K) ≤ m1 * 2 ^ a1)
    (b2 : m2 * 2 ^ a2 < 9007199254740992 * 2 ^ (e2 + K)) (c2 : 0 < e2 → 4503599627370496 * 2 ^ (e2 + K) ≤ m2 * 2 ^ a2) (h : m1 * 2 ^ a1 ≤ m2 * 2 ^ a2) : R m1 a1 K e1 ≤ R m2 a2 K e2 := by
  unfold R
  rcases Nat.lt_trichotomy e1 e2 with he | he | he
  · have h1 : C (m1 * 2 ^ a1) (e1 + K) ≤ 9007199254740992 := C_le (Nat.le_of_lt b1)
    have h2 : 4503599627370496 ≤ C (m2 * 2 ^ a2) (e2 + K) := C_ge (c2 (Nat.lt_of_le_of_lt (Nat.zero_le _) he))
    clear b1 b2 c1 c2 h
    generalize C (m1 * 2 ^ a1) (e1 + K) = x at *
    generalize C (m2 * 2 ^ a2) (e2 + K) = y at *
    omega
  · subst he
    have h1 := C_mono (d := e1 + K) h
    clear b1 b2 c1 c2 h
    generalize C (m1 * 2 ^ a1) (e1 + K) = x at *
    generalize C (m2 * 2 ^ a2) (e1 + K) = y at *
    omega
  · have h1 := c1 (Nat.lt_of_le_of_lt (Nat.zero_le _) he)
    have h2 : 2 ^ (e2 + K) * 2 ≤ 2 ^ (e1 + K) := by rw [← Nat.pow_succ]; exact Nat.pow_le_pow_right (by omega) (by omega)
    exfalso
    clear c1 c2 b1
    generalize 2 ^ (e2 + K) = x at *
    generalize 2 ^ (e1 + K) = y at *
    generalize m1 * 2 ^ a1 = u at *
    generalize m2 * 2 ^ a2 = v at *
    omega

theorem intW_mono {a b : Nat} (h : a ≤ b) : intW a ≤ intW b := by
  by_cases ha : a = 0
  · subst ha; rw [intW_zero]; exact Nat.zero_le _
  · have h1 : intW a = R a P74 0 (E a 0) := by unfold intW; rw [nearest_eq false a 0 P74 0 (by unfold P74; omega) ha, word_eq, if_neg Bool.false_ne_true]
    have h2 : intW b = R b P74 0 (E b 0) := by unfold intW; rw [nearest_eq false b 0 P74 0 (by unfold P74; omega) (by omega), word_eq, if_neg Bool.false_ne_true]
    obtain ⟨b1, c1⟩ := E_bounds (mag := a) (a := P74) (K := 0) (place := 0) (by unfold P74; omega) ha
    obtain ⟨b2, c2⟩ := E_bounds (mag := b) (a := P74) (K := 0) (place := 0) (by unfold P74; omega) (by omega)
    rw [h1, h2]
    exact R_mono b1 c1 b2 c2 (Nat.mul_le_mul_right _ h)

theorem log2_52 {m : Nat} (h1 : 4503599627370496 ≤ m) (h2 : m < 9007199254740992) : m.log2 = 52 := by
  have a : m.log2 < 53 := (Nat.log2_lt (by omega)).2 (by omega)
  have b : 52 ≤ m.log2 := (Nat.le_log2 (by omega)).2 (by omega)
  omega

theorem two_pow_succ (n : Nat) : 2 ^ (n + 1) = 2 * 2 ^ n := by rw [Nat.pow_succ, Nat.mul_comm]
/-- a by b on words: the rung, and on which side of 1 it is -/
theorem ratio_rung {a b : Nat} (ha0 : 1 ≤ a) (hb0 : 1 ≤ b) (ha : a ≤ 18446744073709551616) (hb : b ≤ 18446744073709551616) :
    ratioW a b ≤ 9218868437227405312 ∧ (a ≤ b → ratioW a b ≤ one) ∧ (b ≤ a → one ≤ ratioW a b) := by
  obtain ⟨m, p, e1, v1, z1, n1, t1⟩ := read_int (intW_le ha)
  obtain ⟨n, q, e2, v2, z2, n2, t2⟩ := read_int (intW_le hb)
  have o1 := intW_one_le ha0
  have o2 := intW_one_le hb0
  unfold one at o1 o2
  have m1 := n1 (by omega)
  have m2 := n2 (by omega)
  have la := log2_52 m1 t1
  have lb := log2_52 m2 t2
  have hd := div_some ha hb (fun h _ => by omega)
  unfold Format.div at hd
  rw [e1, e2] at hd
  unfold Datum.quotient at hd
  simp only [show n ≠ 0 by omega, if_false, fb_eq, la, lb, Option.map_some, Format.write, Option.some.injEq, Nat.shiftLeft_eq] at hd
  rw [show 52 + 2 + 52 - 52 = 54 from rfl] at hd
  obtain ⟨D, hD⟩ : ∃ D, D = m * 2 ^ 54 := ⟨_, rfl⟩
  rw [← hD] at hd
  obtain ⟨s, hs, hs1⟩ : ∃ s, s = (D % n != 0).toNat ∧ (s = 0 ∨ s = 1) := ⟨_, rfl, by cases (D % n != 0) <;> simp⟩
  rw [← hs] at hd
  obtain ⟨r, h1, h0, h2, h3⟩ := nearest_rung (false ^^ false) (2 * (D / n) + s) ((p : Int) - 1074 - ((q : Int) - 1074) - ((54 : Nat) : Int) - 1) (p + P74) (q + 55) (by unfold P74; omega)
  have hr : ratioW a b = r := by rw [← hd, h1, word_eq]; rfl
  rw [hr]
  have hdm := Nat.div_add_mod D n
  have hml := Nat.mod_lt D (show 0 < n by omega)
  have hs0 : D % n = 0 → s = 0 := fun h => by rw [hs, h]; rfl
  refine ⟨h0, fun hab => ?_, fun hba => ?_⟩
  · refine h2 one ?_
    have hv : m * 2 ^ p ≤ n * 2 ^ q := by rw [v1, v2]; exact V_le (intW_mono hab)
    have hpq : p ≤ q := by
      rcases Nat.lt_or_ge q p with h | h
      · exfalso
        have h4 : 2 ^ q * 2 ≤ 2 ^ p := by rw [← Nat.pow_succ]; exact Nat.pow_le_pow_right (by omega) (by omega)
        have h5 : 4503599627370496 * 2 ^ p ≤ m * 2 ^ p := Nat.mul_le_mul_right _ m1
        have h6 : n * 2 ^ q < 9007199254740992 * 2 ^ q := Nat.mul_lt_mul_of_pos_right t2 (Nat.two_pow_pos _)
        generalize 2 ^ p = x at *
        generalize 2 ^ q = y at *
        generalize m * x = u at *
        generalize n * y = v at *
        omega
      · exact h
    obtain ⟨Z, hZ⟩ : ∃ Z, Z = 2 ^ (q + 54 - p) := ⟨_, rfl⟩
    have hp : 0 < 2 ^ p := Nat.two_pow_pos _
    have eZ : Z * 2 ^ p = 2 ^ (q + 54) := by rw [hZ, ← Nat.pow_add]; congr 1; omega
    have hDZ : D ≤ n * Z := by
      refine Nat.le_of_mul_le_mul_right ?_ hp
      rw [hD, Nat.mul_assoc n, eZ, Nat.pow_add, ← Nat.mul_assoc, Nat.mul_right_comm m]
      exact Nat.mul_le_mul_right _ hv
    have hQ : D / n ≤ Z := by
      have := Nat.div_le_div_right (c := n) hDZ
      rwa [Nat.mul_div_cancel_left _ (by omega)] at this
    have hmag : 2 * (D / n) + s ≤ 2 * Z := by
      by_cases he : D / n = Z
      · rw [he] at hdm
        have := hs0 (by omega)
        omega
      · omega
    rw [V_one]
    calc (2 * (D / n) + s) * 2 ^ (p + P74) ≤ 2 * Z * 2 ^ (p + P74) := Nat.mul_le_mul_right _ hmag
      _ = 2 ^ P74 * 2 ^ (q + 55) := by
        rw [Nat.pow_add, ← Nat.mul_assoc, Nat.mul_assoc 2 Z, eZ, ← two_pow_succ, Nat.mul_comm]
  · refine h3 one (by unfold one; omega) ?_
    have hv : n * 2 ^ q ≤ m * 2 ^ p := by rw [v1, v2]; exact V_le (intW_mono hba)
    rw [V_one]
    have hp : 0 < 2 ^ p := Nat.two_pow_pos _
    have hmag : 2 ^ (q + 55) ≤ (2 * (D / n) + s) * 2 ^ p := by
      by_cases hpq : p ≤ q + 54
      · obtain ⟨Z, hZ⟩ : ∃ Z, Z = 2 ^ (q + 54 - p) := ⟨_, rfl⟩
        have eZ : Z * 2 ^ p = 2 ^ (q + 54) := by rw [hZ, ← Nat.pow_add]; congr 1; omega
        have hDZ : n * Z ≤ D := by
          refine Nat.le_of_mul_le_mul_right ?_ hp
          rw [hD, Nat.mul_assoc n, eZ, Nat.pow_add, ← Nat.mul_assoc, Nat.mul_right_comm m]
          exact Nat.mul_le_mul_right _ hv
        have hQ : Z ≤ D / n := by
          have := Nat.div_le_div_right (c := n) hDZ
          rwa [Nat.mul_div_cancel_left _ (by omega)] at this
        have h4 : Z * 2 * 2 ^ p ≤ (2 * (D / n) + s) * 2 ^ p := Nat.mul_le_mul_right _ (by omega)
        rw [two_pow_succ (q + 54), ← eZ, ← Nat.mul_assoc, Nat.mul_comm 2 Z]
        exact h4
      · have hQ : 1 ≤ D / n := by
          refine (Nat.le_div_iff_mul_le (by omega)).2 ?_
          rw [hD]
          omega
        have h4 : 2 ^ (q + 55) ≤ 2 ^ p := Nat.pow_le_pow_right (by omega) (by omega)
        have h5 : 1 * 2 ^ p ≤ (2 * (D / n) + s) * 2 ^ p := Nat.mul_le_mul_right _ (by omega)
        omega
    calc 2 ^ P74 * 2 ^ (q + 55) ≤ 2 ^ P74 * ((2 * (D / n) + s) * 2 ^ p) := Nat.mul_le_mul_left _ hmag
      _ = (2 * (D / n) + s) * 2 ^ (p + P74) := by rw [Nat.pow_add, Nat.mul_comm (2 ^ P74), Nat.mul_assoc]

theorem ratio_nought {b : Nat} (hb0 : 1 ≤ b) (hb : b ≤ 18446744073709551616) : ratioW 0 b = 0 := by
  obtain ⟨n, q, e2, v2, z2, n2, t2⟩ := read_int (intW_le hb)
  have o2 := intW_one_le hb0
  unfold one at o2
  have m2 := n2 (by omega)
  have hd := div_some (a := 0) (by omega) hb (fun _ h => by omega)
  unfold Format.div at hd
  rw [intW_zero, e2] at hd
  have e0 : double.read 0 = .number false 0 (-1074) := by decide
  rw [e0] at hd
  unfold Datum.quotient at hd
  simp only [show n ≠ 0 by omega, if_false, Nat.zero_shiftLeft, Nat.zero_div, Nat.zero_mod, Option.map_some, Format.write, Option.some.injEq] at hd
  rw [← hd]
  rfl
theorem ratio_inf {a : Nat} (ha0 : 1 ≤ a) (ha : a ≤ 18446744073709551616) : ratioW a 0 = 9218868437227405312 := by
  obtain ⟨m, p, e1, v1, z1, n1, t1⟩ := read_int (intW_le ha)
  have o1 := intW_one_le ha0
  unfold one at o1
  have m1 := n1 (by omega)
  have hd := div_some (b := 0) ha (by omega) (fun h _ => by omega)
  unfold Format.div at hd
  rw [intW_zero, e1] at hd
  have e0 : double.read 0 = .number false 0 (-1074) := by decide
  rw [e0] at hd
  unfold Datum.quotient at hd
  simp only [show m ≠ 0 by omega, if_false, if_true, Option.map_some, Format.write, Option.some.injEq] at hd
  rw [← hd, inf_eq, word_eq]
  rfl
end Go.Proofs.YtdgphhpeebieaaaDoor.FP
