/-
  PLAIN: floating-point words (IEEE 754, 64 bits) as integers: their order, their rounding. No Go in it.
-/
import Ieee.Arith
namespace Go.Proofs.YtdgphhpeebieaaaDoor.FP
open Ieee

/-- magnitude of a rung, in units of 2^-1074 -/
def V (r : Nat) : Nat := if r < 4503599627370496 then r else (4503599627370496 + r % 4503599627370496) * 2 ^ (r / 4503599627370496 - 1)

theorem binade_eq : double.binade = 4503599627370496 := by decide
theorem inf_eq : double.infRung = 9218868437227405312 := by decide
theorem sw_eq : double.signWeight = 9223372036854775808 := by decide
theorem lp_eq : double.leastPlace = -1074 := by decide
theorem fb_eq : double.fractionBits = 52 := rfl

theorem pow_split (a b : Nat) (h : a ≤ b) : 2 ^ b = 2 ^ a * 2 ^ (b - a) := by
  rw [← Nat.pow_add]; congr 1; omega

theorem V_lt {a b : Nat} (h : a < b) : V a < V b := by
  unfold V
  have h52 : (4503599627370496 : Nat) = 2 ^ 52 := by decide
  by_cases ha : a < 4503599627370496
  · rw [if_pos ha]
    by_cases hb : b < 4503599627370496
    · rw [if_pos hb]; exact h
    · rw [if_neg hb]
      have hp : 0 < 2 ^ (b / 4503599627370496 - 1) := Nat.two_pow_pos _
      calc a < 4503599627370496 := ha
        _ ≤ (4503599627370496 + b % 4503599627370496) * 1 := by omega
        _ ≤ _ := Nat.mul_le_mul_left _ hp
  · have hb : ¬ b < 4503599627370496 := by omega
    rw [if_neg ha, if_neg hb]
    have hq : a / 4503599627370496 ≤ b / 4503599627370496 := Nat.div_le_div_right (by omega)
    by_cases he : a / 4503599627370496 = b / 4503599627370496
    · rw [he]
      exact Nat.mul_lt_mul_of_pos_right (by omega) (Nat.two_pow_pos _)
    · have hlt : a / 4503599627370496 < b / 4503599627370496 := by omega
      have hp : 0 < 2 ^ (a / 4503599627370496 - 1) := Nat.two_pow_pos _
      have e : 2 ^ (b / 4503599627370496 - 1) = 2 ^ (a / 4503599627370496 - 1) * 2 ^ (b / 4503599627370496 - 1 - (a / 4503599627370496 - 1)) := pow_split _ _ (by omega)
      have e2 : 2 ^ 1 ≤ 2 ^ (b / 4503599627370496 - 1 - (a / 4503599627370496 - 1)) := Nat.pow_le_pow_right (by omega) (by omega)
      rw [e]
      calc (4503599627370496 + a % 4503599627370496) * 2 ^ (a / 4503599627370496 - 1)
          < 9007199254740992 * 2 ^ (a / 4503599627370496 - 1) := Nat.mul_lt_mul_of_pos_right (by omega) hp
        _ = 4503599627370496 * (2 ^ (a / 4503599627370496 - 1) * 2 ^ 1) := by omega
        _ ≤ 4503599627370496 * (2 ^ (a / 4503599627370496 - 1) * 2 ^ (b / 4503599627370496 - 1 - (a / 4503599627370496 - 1))) := Nat.mul_le_mul_left _ (Nat.mul_le_mul_left _ e2)
        _ ≤ _ := Nat.mul_le_mul_right _ (by omega)

theorem V_le {a b : Nat} (h : a ≤ b) : V a ≤ V b := by
  rcases Nat.lt_or_ge a b with h1 | h1
  · exact Nat.le_of_lt (V_lt h1)
  · rw [show a = b by omega]; exact Nat.le_refl _
theorem V_lt_iff {a b : Nat} : V a < V b ↔ a < b := ⟨fun h => by rcases Nat.lt_or_ge a b with h1 | h1; exact h1; have := V_le h1; omega, V_lt⟩
theorem V_le_iff {a b : Nat} : V a ≤ V b ↔ a ≤ b := by
  have := @V_lt_iff b a; omega
theorem V_zero : V 0 = 0 := by decide
theorem V_inj {a b : Nat} (h : V a = V b) : a = b := by
  have h1 := @V_le_iff a b; have h2 := @V_le_iff b a; omega


/-- what a word stands for, if it is a finite number: its sign, its magnitude in units of 2^-1074 -/
theorem read_fin {x : Nat} (h : x % 9223372036854775808 < 9218868437227405312) :
    ∃ m : Nat, ∃ p : Nat, double.read x = .number (x / 9223372036854775808 % 2 == 1) m ((p : Int) - 1074) ∧ m * 2 ^ p = V (x % 9223372036854775808) ∧ (m = 0 ↔ x % 9223372036854775808 = 0) ∧ (4503599627370496 ≤ x % 9223372036854775808 → 4503599627370496 ≤ m) ∧ m < 9007199254740992 ∧ p ≤ 2045 := by
  unfold Format.read
  simp only [binade_eq, inf_eq, sw_eq, lp_eq]
  generalize hr : x % 9223372036854775808 = r at *
  by_cases h1 : r < 4503599627370496
  · refine ⟨r, 0, ?_, ?_, Iff.rfl, ?_, ?_, ?_⟩
    · rw [if_pos h1]; rfl
    · unfold V; rw [if_pos h1]; omega
    · omega
    · omega
    · omega
  · refine ⟨4503599627370496 + r % 4503599627370496, r / 4503599627370496 - 1, ?_, ?_, ?_, ?_, ?_, ?_⟩
    · rw [if_neg h1, if_pos h]
      congr 1
    · unfold V; rw [if_neg h1]
    · omega
    · omega
    · omega
    · omega

theorem read_inf {x : Nat} (h : x % 9223372036854775808 = 9218868437227405312) : double.read x = .infinity (x / 9223372036854775808 % 2 == 1) := by
  unfold Format.read
  simp only [binade_eq, inf_eq, sw_eq, lp_eq]
  rw [h]; rfl

theorem read_nan {x : Nat} (h : 9218868437227405312 < x % 9223372036854775808) : ∃ t, double.read x = .nan (x / 9223372036854775808 % 2 == 1) t := by
  unfold Format.read
  simp only [binade_eq, inf_eq, sw_eq, lp_eq]
  rw [if_neg (by omega), if_neg (by omega), if_neg (by omega)]
  exact ⟨_, rfl⟩

/-- the signed value in units of 2^-1074 -/
def sv (x : Nat) : Int := if x / 9223372036854775808 % 2 == 1 then -(V (x % 9223372036854775808) : Int) else (V (x % 9223372036854775808) : Int)

theorem signed_eq (s : Bool) (m u : Nat) : signed s m u = if s then -((m * 2 ^ u : Nat) : Int) else ((m * 2 ^ u : Nat) : Int) := by
  unfold signed; rw [Nat.shiftLeft_eq]

theorem cmp_scale (a b : Int) (k : Nat) (hk : 0 < k) : compare (a * k) (b * k) = compare a b := by
  have hk' : (0 : Int) < k := by omega
  rcases Int.lt_trichotomy a b with h | h | h
  · rw [Int.compare_eq_lt.2 h, Int.compare_eq_lt]
    exact Int.mul_lt_mul_of_pos_right h hk'
  · subst h; simp
  · rw [Int.compare_eq_gt.2 h, Int.compare_eq_gt]
    exact Int.mul_lt_mul_of_pos_right h hk'

theorem cmp_min (a b : Int) (m n p q : Nat) (sa sb : Bool) (ha : a = (if sa then -((m * 2 ^ p : Nat) : Int) else ((m * 2 ^ p : Nat) : Int))) (hb : b = (if sb then -((n * 2 ^ q : Nat) : Int) else ((n * 2 ^ q : Nat) : Int))) :
    compare (if sa then -((m * 2 ^ (((p : Int) - 1074) - min ((p : Int) - 1074) ((q : Int) - 1074)).toNat : Nat) : Int) else ((m * 2 ^ (((p : Int) - 1074) - min ((p : Int) - 1074) ((q : Int) - 1074)).toNat : Nat) : Int))
      (if sb then -((n * 2 ^ (((q : Int) - 1074) - min ((p : Int) - 1074) ((q : Int) - 1074)).toNat : Nat) : Int) else ((n * 2 ^ (((q : Int) - 1074) - min ((p : Int) - 1074) ((q : Int) - 1074)).toNat : Nat) : Int)) = compare a b := by
  have e1 : (((p : Int) - 1074) - min ((p : Int) - 1074) ((q : Int) - 1074)).toNat = p - min p q := by omega
  have e2 : (((q : Int) - 1074) - min ((p : Int) - 1074) ((q : Int) - 1074)).toNat = q - min p q := by omega
  rw [e1, e2]
  have f1 : m * 2 ^ p = m * 2 ^ (p - min p q) * 2 ^ min p q := by rw [Nat.mul_assoc, ← Nat.pow_add]; congr 2; omega
  have f2 : n * 2 ^ q = n * 2 ^ (q - min p q) * 2 ^ min p q := by rw [Nat.mul_assoc, ← Nat.pow_add]; congr 2; omega
  rw [ha, hb, f1, f2, ← cmp_scale _ _ (2 ^ min p q) (Nat.two_pow_pos _)]
  congr 1
  · cases sa <;> simp [Int.neg_mul]
  · cases sb <;> simp [Int.neg_mul]

theorem order_fin {x y : Nat} (hx : x % 9223372036854775808 < 9218868437227405312) (hy : y % 9223372036854775808 < 9218868437227405312) :
    double.order x y = some (compare (sv x) (sv y)) := by
  obtain ⟨m, p, e1, v1, _⟩ := read_fin hx
  obtain ⟨n, q, e2, v2, _⟩ := read_fin hy
  unfold Format.order
  rw [e1, e2]
  unfold Datum.order
  simp only [signed_eq]
  congr 1
  refine cmp_min _ _ m n p q _ _ ?_ ?_
  · unfold sv; rw [v1]
  · unfold sv; rw [v2]

theorem sv_inf_gt {x y : Nat} (hx : x % 9223372036854775808 = 9218868437227405312) (hy : y % 9223372036854775808 < 9218868437227405312) :
    (if x / 9223372036854775808 % 2 == 1 then sv x < sv y else sv y < sv x) := by
  have h : V (y % 9223372036854775808) < V (x % 9223372036854775808) := V_lt (by omega)
  unfold sv
  split <;> split <;> omega

theorem order_val {x y : Nat} (hx : x % 9223372036854775808 ≤ 9218868437227405312) (hy : y % 9223372036854775808 ≤ 9218868437227405312) :
    double.order x y = some (compare (sv x) (sv y)) := by
  rcases Nat.lt_or_ge (x % 9223372036854775808) 9218868437227405312 with h1 | h1 <;> rcases Nat.lt_or_ge (y % 9223372036854775808) 9218868437227405312 with h2 | h2
  · exact order_fin h1 h2
  · have h2 : y % 9223372036854775808 = 9218868437227405312 := by omega
    obtain ⟨m, p, e1, v1, _⟩ := read_fin h1
    have := sv_inf_gt h2 h1
    unfold Format.order
    rw [e1, read_inf h2]
    unfold Datum.order
    split at this <;> rename_i hb
    · simp only [hb, if_true]; rw [Int.compare_eq_gt.2 this]
    · simp only [hb]; rw [Int.compare_eq_lt.2 this]; rfl
  · have h1 : x % 9223372036854775808 = 9218868437227405312 := by omega
    obtain ⟨m, p, e1, v1, _⟩ := read_fin h2
    have := sv_inf_gt h1 h2
    unfold Format.order
    rw [e1, read_inf h1]
    unfold Datum.order
    split at this <;> rename_i hb
    · simp only [hb, if_true]; rw [Int.compare_eq_lt.2 this]
    · simp only [hb]; rw [Int.compare_eq_gt.2 this]; rfl
  · have h2 : y % 9223372036854775808 = 9218868437227405312 := by omega
    have h1 : x % 9223372036854775808 = 9218868437227405312 := by omega
    have hV : 0 < V 9218868437227405312 := by have := @V_lt 0 9218868437227405312 (by omega); omega
    unfold Format.order
    rw [read_inf h1, read_inf h2]
    unfold Datum.order sv
    rw [h1, h2]
    generalize V 9218868437227405312 = v at *
    cases hb : (x / 9223372036854775808 % 2 == 1) <;> cases hc : (y / 9223372036854775808 % 2 == 1)
    · simp
    · simp only [Bool.toNat, cond, if_true, Bool.false_eq_true, if_false]; rw [Int.compare_eq_gt.2 (show (-(v : Int)) < v by omega)] ; rfl
    · simp only [Bool.toNat, cond, if_true, Bool.false_eq_true, if_false]; rw [Int.compare_eq_lt.2 (show (-(v : Int)) < v by omega)] ; rfl
    · simp

theorem order_nan_left {x y : Nat} (hx : 9218868437227405312 < x % 9223372036854775808) : double.order x y = none := by
  obtain ⟨t, e⟩ := read_nan hx
  unfold Format.order; rw [e]; rfl
theorem order_nan_right {x y : Nat} (hy : 9218868437227405312 < y % 9223372036854775808) : double.order x y = none := by
  obtain ⟨t, e⟩ := read_nan hy
  unfold Format.order; rw [e]; cases double.read x <;> rfl


/-! ### rounding -/

def C (n d : Nat) : Nat := n / 2 ^ d + (if 2 ^ d < 2 * (n % 2 ^ d) ∨ (2 ^ d = 2 * (n % 2 ^ d) ∧ n / 2 ^ d % 2 = 1) then 1 else 0)

theorem cut_eq (s : Bool) (n d : Nat) : Toward.even.cut s n d = C n d := by
  unfold Toward.cut C
  simp only [Nat.shiftLeft_eq, Nat.one_mul]
  by_cases h : d ≤ n.log2 + 2
  · rw [Nat.min_eq_left h]
    by_cases c : 2 ^ d < 2 * (n % 2 ^ d) ∨ (2 ^ d = 2 * (n % 2 ^ d) ∧ n / 2 ^ d % 2 = 1)
    · rw [if_pos c]
      have : (decide (2 ^ d < 2 * (n % 2 ^ d)) || 2 ^ d == 2 * (n % 2 ^ d) && n / 2 ^ d % 2 == 1) = true := by simpa using c
      rw [this]; rfl
    · rw [if_neg c]
      have : (decide (2 ^ d < 2 * (n % 2 ^ d)) || 2 ^ d == 2 * (n % 2 ^ d) && n / 2 ^ d % 2 == 1) = false := by
        rw [← Bool.not_eq_true]; simpa using c
      rw [this]; rfl
  · rw [Nat.min_eq_right (by omega)]
    have h1 : n < 2 ^ (n.log2 + 1) := Nat.lt_log2_self
    have h2 : 2 ^ (n.log2 + 2) = 2 * 2 ^ (n.log2 + 1) := by rw [Nat.pow_succ, Nat.mul_comm]
    have h3 : 2 ^ (n.log2 + 2) ≤ 2 ^ d := Nat.pow_le_pow_right (by omega) (by omega)
    generalize 2 ^ (n.log2 + 2) = g at *
    generalize 2 ^ (n.log2 + 1) = g' at *
    generalize 2 ^ d = D at *
    have e1 : n / g = 0 := Nat.div_eq_of_lt (by omega)
    have e2 : n % g = n := Nat.mod_eq_of_lt (by omega)
    have e3 : n / D = 0 := Nat.div_eq_of_lt (by omega)
    have e4 : n % D = n := Nat.mod_eq_of_lt (by omega)
    rw [e1, e2, e3, e4, if_neg (by omega)]
    have : (decide (g < 2 * n) || g == 2 * n && 0 % 2 == 1) = false := by
      rw [← Bool.not_eq_true]; simp; omega
    rw [this]; rfl

theorem C_le {n d z : Nat} (h : n ≤ z * 2 ^ d) : C n d ≤ z := by
  unfold C
  have hp : 0 < 2 ^ d := Nat.two_pow_pos _
  generalize 2 ^ d = D at *
  have h1 := Nat.div_add_mod n D
  have h2 := Nat.mod_lt n hp
  have h3 : n / D ≤ z := by
    calc n / D ≤ z * D / D := Nat.div_le_div_right h
      _ = z := Nat.mul_div_cancel _ hp
  by_cases he : n / D = z
  · rw [he, Nat.mul_comm] at h1
    rw [if_neg (by omega)]; omega
  · split <;> omega

theorem C_ge {n d z : Nat} (h : z * 2 ^ d ≤ n) : z ≤ C n d := by
  unfold C
  have hp : 0 < 2 ^ d := Nat.two_pow_pos _
  have : z ≤ n / 2 ^ d := (Nat.le_div_iff_mul_le hp).2 h
  omega

theorem C_mono {n m d : Nat} (h : n ≤ m) : C n d ≤ C m d := by
  unfold C
  have hp : 0 < 2 ^ d := Nat.two_pow_pos _
  generalize 2 ^ d = D at *
  have h1 := Nat.div_add_mod n D
  have h2 := Nat.mod_lt n hp
  have h3 := Nat.div_add_mod m D
  have h4 := Nat.mod_lt m hp
  have h5 : n / D ≤ m / D := Nat.div_le_div_right h
  by_cases he : n / D = m / D
  · rw [he] at h1 ⊢
    generalize D * (m / D) = t at *
    split <;> split <;> omega
  · split <;> split <;> omega

theorem C_scale (n d t : Nat) : C (n * 2 ^ t) (d + t) = C n d := by
  unfold C
  have hp : 0 < 2 ^ t := Nat.two_pow_pos _
  rw [Nat.pow_add, Nat.mul_div_mul_right _ _ hp, Nat.mul_mod_mul_right]
  generalize 2 ^ t = T at *
  generalize 2 ^ d = D at *
  congr 1
  have e : 2 * (n % D * T) = 2 * (n % D) * T := by rw [Nat.mul_assoc]
  rw [e]
  congr 1
  rw [Nat.mul_lt_mul_right hp, Nat.mul_left_inj (by omega)]

theorem C_zero (n : Nat) : C n 0 = n := by
  unfold C; rw [Nat.pow_zero, Nat.mod_one, Nat.div_one, if_neg (by omega)]; omega

/-- the place of the last digit kept, from 2^-1074 on -/
def E (mag : Nat) (place : Int) : Nat := (max (place + mag.log2 - 52) (-1074) + 1074).toNat

/-- the rung that 'nearest' comes to; a: place + 1074 + K -/
def R (mag a K : Nat) (e : Nat) : Nat := min (e * 4503599627370496 + C (mag * 2 ^ a) (e + K)) 9218868437227405312

theorem nearest_eq (neg : Bool) (mag : Nat) (place : Int) (a K : Nat) (h : (a : Int) = place + 1074 + K) (hm : mag ≠ 0) :
    double.nearest neg mag place = double.word neg (R mag a K (E mag place)) := by
  unfold Format.nearest R
  rw [if_neg hm]
  simp only [fb_eq, lp_eq, binade_eq, inf_eq, cut_eq]
  have he : ((max (place + (mag.log2 : Int) - (52 : Nat)) (-1074)) - -1074).toNat = E mag place := by unfold E; omega
  have hE : (E mag place : Int) = max (place + (mag.log2 : Int) - (52 : Nat)) (-1074) + 1074 := by unfold E; omega
  rw [he]
  generalize hL : max (place + (mag.log2 : Int) - (52 : Nat)) (-1074) = last at *
  congr 3
  rw [Nat.shiftLeft_eq]
  by_cases hd : last ≤ place
  · have e1 : (last - place).toNat = 0 := by omega
    rw [e1, ← C_scale _ 0 (E mag place + K), Nat.zero_add, Nat.mul_assoc, ← Nat.pow_add]
    congr 3
    omega
  · have e1 : (place - last).toNat = 0 := by omega
    rw [e1, Nat.pow_zero, Nat.mul_one, ← C_scale mag _ a]
    congr 1
    omega

theorem E_bounds {mag a K : Nat} {place : Int} (h : (a : Int) = place + 1074 + K) (hm : mag ≠ 0) :
    mag * 2 ^ a < 9007199254740992 * 2 ^ (E mag place + K) ∧ (0 < E mag place → 4503599627370496 * 2 ^ (E mag place + K) ≤ mag * 2 ^ a) := by
  have h1 : mag < 2 ^ (mag.log2 + 1) := Nat.lt_log2_self
  have h2 : 2 ^ mag.log2 ≤ mag := Nat.log2_self_le hm
  have hE : (E mag place : Int) = max (place + (mag.log2 : Int) - 52) (-1074) + 1074 := by unfold E; omega
  constructor
  · have e : (9007199254740992 : Nat) = 2 ^ 53 := by decide
    rw [e, ← Nat.pow_add]
    calc mag * 2 ^ a < 2 ^ (mag.log2 + 1) * 2 ^ a := Nat.mul_lt_mul_of_pos_right h1 (Nat.two_pow_pos _)
      _ = 2 ^ (mag.log2 + 1 + a) := by rw [← Nat.pow_add]
      _ ≤ _ := Nat.pow_le_pow_right (by omega) (by omega)
  · intro hp
    have e : (4503599627370496 : Nat) = 2 ^ 52 := by decide
    rw [e, ← Nat.pow_add]
    calc 2 ^ (52 + (E mag place + K)) ≤ 2 ^ (mag.log2 + a) := Nat.pow_le_pow_right (by omega) (by omega)
      _ = 2 ^ mag.log2 * 2 ^ a := by rw [← Nat.pow_add]
      _ ≤ _ := Nat.mul_le_mul_right _ h2

theorem V_binade (e : Nat) : V ((e + 1) * 4503599627370496) = 4503599627370496 * 2 ^ e := by
  unfold V
  rw [if_neg (by omega)]
  congr 1
  · omega
  · congr 1; omega

theorem V_small {r : Nat} (h : r ≤ 9007199254740992) : V r = r := by
  unfold V
  split
  · rfl
  · by_cases h2 : r / 4503599627370496 = 1
    · rw [h2]
      show _ * 2 ^ 0 = r
      omega
    · rw [show r / 4503599627370496 = 2 by omega]
      show _ * 2 ^ 1 = r
      omega

theorem R_le {mag a K e r : Nat} (hb : mag * 2 ^ a < 9007199254740992 * 2 ^ (e + K)) (hc : 0 < e → 4503599627370496 * 2 ^ (e + K) ≤ mag * 2 ^ a)
    (h : mag * 2 ^ a ≤ V r * 2 ^ K) : R mag a K e ≤ r := by
  unfold R
  have hk : C (mag * 2 ^ a) (e + K) ≤ 9007199254740992 := C_le (Nat.le_of_lt hb)
  have hK : 0 < 2 ^ K := Nat.two_pow_pos _
  by_cases he : e = 0
  · subst he
    by_cases hr : r ≤ 9007199254740992
    · have hv : V r = r := V_small hr
      rw [hv] at h
      have h5 : C (mag * 2 ^ a) (0 + K) ≤ r := C_le (by rw [Nat.zero_add]; exact h)
      clear h hb hc hK hv
      generalize C (mag * 2 ^ a) (0 + K) = c at *
      omega
    · clear h hb hc hK
      generalize C (mag * 2 ^ a) (0 + K) = c at *
      omega
  · have h1 := hc (Nat.pos_of_ne_zero he)
    have h2 : 4503599627370496 * 2 ^ e * 2 ^ K ≤ V r * 2 ^ K := by
      rw [Nat.mul_assoc, ← Nat.pow_add]; exact Nat.le_trans h1 h
    have h3 : V ((e + 1) * 4503599627370496) ≤ V r := by
      rw [V_binade]; exact Nat.le_of_mul_le_mul_right h2 hK
    have h4 := V_le_iff.1 h3
    by_cases hg : r / 4503599627370496 = e + 1
    · have hv : V r = (4503599627370496 + r % 4503599627370496) * 2 ^ e := by
        unfold V; rw [if_neg (by omega), hg]; rfl
      rw [hv, Nat.mul_assoc, ← Nat.pow_add] at h
      have h5 := C_le h
      clear h hb hc hK hv h1 h2 h3
      generalize C (mag * 2 ^ a) (e + K) = c at *
      omega
    · clear h hb hc hK h1 h2 h3
      generalize C (mag * 2 ^ a) (e + K) = c at *
      have : e + 2 ≤ r / 4503599627370496 := by omega
      omega

theorem R_ge {mag a K e r : Nat} (hb : mag * 2 ^ a < 9007199254740992 * 2 ^ (e + K)) (hc : 0 < e → 4503599627370496 * 2 ^ (e + K) ≤ mag * 2 ^ a) (hr : r ≤ 9218868437227405312)
    (h : V r * 2 ^ K ≤ mag * 2 ^ a) : r ≤ R mag a K e := by
  unfold R
  have hK : 0 < 2 ^ K := Nat.two_pow_pos _
  have h2 : V r * 2 ^ K < 9007199254740992 * 2 ^ e * 2 ^ K := by
    rw [Nat.mul_assoc, ← Nat.pow_add]; exact Nat.lt_of_le_of_lt h hb
  have h3 : V r < V ((e + 1 + 1) * 4503599627370496) := by
    rw [V_binade, Nat.pow_succ]
    have h5 := Nat.lt_of_mul_lt_mul_right h2
    generalize 2 ^ e = z at *
    clear h hb hc h2 hK
    omega
  have h4 := V_lt_iff.1 h3
  by_cases he : e = 0
  · subst he
    have hv : V r = r := V_small (by clear h hb hc h2 hK h3; omega)
    rw [hv] at h
    have h5 : r ≤ C (mag * 2 ^ a) (0 + K) := C_ge (by rw [Nat.zero_add]; exact h)
    clear h hb hc h2 hK h3 hv
    generalize C (mag * 2 ^ a) (0 + K) = c at *
    omega
  · have h1 := C_ge (hc (Nat.pos_of_ne_zero he))
    by_cases hg : r / 4503599627370496 = e + 1
    · have hv : V r = (4503599627370496 + r % 4503599627370496) * 2 ^ e := by
        unfold V; rw [if_neg (by omega), hg]; rfl
      rw [hv, Nat.mul_assoc, ← Nat.pow_add] at h
      have h5 := C_ge h
      clear h hb hc h2 hK h3 hv
      generalize C (mag * 2 ^ a) (e + K) = c at *
      omega
    · clear h hb hc h2 hK h3
      generalize C (mag * 2 ^ a) (e + K) = c at *
      omega

theorem R_max (mag a K e : Nat) : R mag a K e ≤ 9218868437227405312 := Nat.min_le_right _ _

/-- nearest, below a rung -/
theorem nearest_rung (neg : Bool) (mag : Nat) (place : Int) (a K : Nat) (h : (a : Int) = place + 1074 + K) :
    ∃ q, double.nearest neg mag place = double.word neg q ∧ q ≤ 9218868437227405312 ∧ (∀ r, mag * 2 ^ a ≤ V r * 2 ^ K → q ≤ r) ∧ (∀ r, r ≤ 9218868437227405312 → V r * 2 ^ K ≤ mag * 2 ^ a → r ≤ q) := by
  by_cases hm : mag = 0
  · subst hm
    refine ⟨0, by unfold Format.nearest; rw [if_pos rfl], by omega, fun r _ => by omega, fun r _ h2 => ?_⟩
    rw [Nat.zero_mul] at h2
    have h3 : V r * 2 ^ K = 0 := by omega
    rcases Nat.mul_eq_zero.1 h3 with h4 | h4
    · have := @V_le_iff r 0; rw [V_zero] at this; omega
    · have : 0 < 2 ^ K := Nat.two_pow_pos _; omega
  · obtain ⟨hb, hc⟩ := E_bounds h hm
    exact ⟨_, nearest_eq neg mag place a K h hm, R_max .., fun r hr => R_le hb hc hr, fun r h1 h2 => R_ge hb hc h1 h2⟩

/-- what a format has is met -/
theorem nearest_exact (neg : Bool) (mag : Nat) (place : Int) (a K r : Nat) (h : (a : Int) = place + 1074 + K) (hr : r ≤ 9218868437227405312) (hv : mag * 2 ^ a = V r * 2 ^ K) :
    double.nearest neg mag place = double.word neg r := by
  obtain ⟨q, h1, _, h2, h3⟩ := nearest_rung neg mag place a K h
  have := h2 r (by omega)
  have := h3 r hr (by omega)
  rw [h1, show q = r by omega]

theorem word_eq (neg : Bool) (r : Nat) : double.word neg r = if neg then 9223372036854775808 + r else r := by
  unfold Format.word; rw [sw_eq]

end Go.Proofs.YtdgphhpeebieaaaDoor.FP
