/-
  PLAIN: what the functions of package chance come to, on words. No Go in it.
-/
import Derived.Test.YtdgphhpeebieaaaDoorFp
namespace Go.Proofs.YtdgphhpeebieaaaDoor.FP
open Ieee

/-- a word of 64 bits -/
def Wd (x : Nat) : Prop := x < 18446744073709551616
/-- no number -/
def isNot (x : Nat) : Bool := decide (9218868437227405312 < x % 9223372036854775808)
/-- the key: ordered as numbers are, the two noughts alike -/
def K (x : Nat) : Int := if x < 9223372036854775808 then (x : Int) else -((x : Int) - 9223372036854775808)
/-- the key of the one order: -0 ahead of 0, no numbers last -/
def T (x : Nat) : Int := if isNot x then 18446744073709551616 else if x < 9223372036854775808 then (x : Int) else -((x : Int) - 9223372036854775808) - 1

theorem sv_lt {x y : Nat} (hx : Wd x) (hy : Wd y) : sv x < sv y ↔ K x < K y := by
  unfold Wd at hx hy
  have h1 := @V_lt_iff (x % 9223372036854775808) (y % 9223372036854775808)
  have h2 := @V_lt_iff (y % 9223372036854775808) (x % 9223372036854775808)
  have h3 := @V_lt_iff 0 (x % 9223372036854775808)
  have h4 := @V_lt_iff 0 (y % 9223372036854775808)
  rw [V_zero] at h3 h4
  unfold sv K
  by_cases a : x < 9223372036854775808 <;> by_cases b : y < 9223372036854775808
  · rw [if_neg (by rw [beq_iff_eq]; omega), if_neg (by rw [beq_iff_eq]; omega), if_pos a, if_pos b]; omega
  · rw [if_neg (by rw [beq_iff_eq]; omega), if_pos (by rw [beq_iff_eq]; omega), if_pos a, if_neg b]; omega
  · rw [if_pos (by rw [beq_iff_eq]; omega), if_neg (by rw [beq_iff_eq]; omega), if_neg a, if_pos b]; omega
  · rw [if_pos (by rw [beq_iff_eq]; omega), if_pos (by rw [beq_iff_eq]; omega), if_neg a, if_neg b]; omega

theorem isNot_true {x : Nat} (h : isNot x = true) : 9218868437227405312 < x % 9223372036854775808 := of_decide_eq_true h
theorem isNot_false {x : Nat} (h : isNot x = false) : x % 9223372036854775808 ≤ 9218868437227405312 := by have := of_decide_eq_false h; omega

theorem order_some {x y : Nat} (hx : Wd x) (hy : Wd y) (nx : isNot x = false) (ny : isNot y = false) : double.order x y = some (compare (K x) (K y)) := by
  rw [order_val (isNot_false nx) (isNot_false ny)]
  congr 1
  have h1 := sv_lt hx hy
  have h2 := sv_lt hy hx
  rcases Int.lt_trichotomy (K x) (K y) with h | h | h
  · rw [Int.compare_eq_lt.2 h, Int.compare_eq_lt.2 (h1.2 h)]
  · rw [Int.compare_eq_eq.2 h, Int.compare_eq_eq.2 (by omega)]
  · rw [Int.compare_eq_gt.2 h, Int.compare_eq_gt.2 (h2.2 h)]

theorem ord_lt {x y : Nat} (hx : Wd x) (hy : Wd y) : (double.order x y == some Ordering.lt) = (!isNot x && !isNot y && decide (K x < K y)) := by
  cases nx : isNot x
  · cases ny : isNot y
    · rw [order_some hx hy nx ny]
      rcases Int.lt_trichotomy (K x) (K y) with h | h | h
      · rw [Int.compare_eq_lt.2 h]; simp [h]
      · rw [Int.compare_eq_eq.2 h]; simp [h]
      · rw [Int.compare_eq_gt.2 h]; simp; omega
    · rw [order_nan_right (isNot_true ny)]; rfl
  · rw [order_nan_left (isNot_true nx)]; rfl
theorem ord_gt {x y : Nat} (hx : Wd x) (hy : Wd y) : (double.order x y == some Ordering.gt) = (!isNot x && !isNot y && decide (K y < K x)) := by
  cases nx : isNot x
  · cases ny : isNot y
    · rw [order_some hx hy nx ny]
      rcases Int.lt_trichotomy (K x) (K y) with h | h | h
      · rw [Int.compare_eq_lt.2 h]; simp; omega
      · rw [Int.compare_eq_eq.2 h]; simp [h]
      · rw [Int.compare_eq_gt.2 h]; simp [h]
    · rw [order_nan_right (isNot_true ny)]; rfl
  · rw [order_nan_left (isNot_true nx)]; rfl
theorem ord_eq {x y : Nat} (hx : Wd x) (hy : Wd y) : (double.order x y == some Ordering.eq) = (!isNot x && !isNot y && decide (K x = K y)) := by
  cases nx : isNot x
  · cases ny : isNot y
    · rw [order_some hx hy nx ny]
      rcases Int.lt_trichotomy (K x) (K y) with h | h | h
      · rw [Int.compare_eq_lt.2 h]; simp; omega
      · rw [Int.compare_eq_eq.2 h]; simp [h]
      · rw [Int.compare_eq_gt.2 h]; simp; omega
    · rw [order_nan_right (isNot_true ny)]; rfl
  · rw [order_nan_left (isNot_true nx)]; rfl

/-- 1 -/
def one : Nat := 4607182418800017408
theorem one_eq : one = 4607182418800017408 := rfl
def P74 : Nat := 1074
theorem pow52 (e : Nat) : 4503599627370496 * 2 ^ e = 2 ^ (52 + e) := by rw [Nat.pow_add]
theorem V_at (e : Nat) : V ((e + 1) * 4503599627370496) = 2 ^ (52 + e) := by rw [V_binade, pow52]
theorem V_at' (e f r : Nat) (he : 52 + e = f) (hr : r = (e + 1) * 4503599627370496) : V r = 2 ^ f := by subst he; subst hr; exact V_at e
theorem V_one : V one = 2 ^ P74 := V_at' 1022 P74 one rfl rfl

def clampW (x : Nat) : Nat := if isNot x then 0 else if (one : Int) < K x then one else if 0 < K x then x else 0
theorem clampW_le (x : Nat) : clampW x ≤ one := by
  unfold clampW
  split
  · omega
  · split
    · omega
    · split
      · unfold K at *; split at * <;> omega
      · omega
theorem one_wd : Wd one := by unfold Wd one; omega
theorem le_one_wd {x : Nat} (h : x ≤ one) : Wd x := by unfold Wd; unfold one at h; omega
theorem clampW_wd (x : Nat) : Wd (clampW x) := le_one_wd (clampW_le x)
theorem K_le_one {x : Nat} (h : x ≤ one) : K x = x := by unfold K; unfold one at h; rw [if_pos (by omega)]
theorem isNot_le_one {x : Nat} (h : x ≤ one) : isNot x = false := by unfold isNot; unfold one at h; exact decide_eq_false (by omega)
theorem clampW_self {x : Nat} (h : x ≤ one) : clampW x = x := by
  unfold clampW
  rw [isNot_le_one h, K_le_one h]
  simp only [Bool.false_eq_true, if_false]
  rw [if_neg (by omega)]
  split <;> omega

theorem read_le {x : Nat} (h : x ≤ one) : ∃ m p : Nat, double.read x = .number false m ((p : Int) - 1074) ∧ m * 2 ^ p = V x := by
  unfold one at h
  have e : x % 9223372036854775808 = x := Nat.mod_eq_of_lt (by omega)
  obtain ⟨m, p, h1, h2, _⟩ := read_fin (x := x) (by omega)
  rw [e] at h2
  refine ⟨m, p, ?_, h2⟩
  rw [h1, show (x / 9223372036854775808 % 2 == 1) = false by rw [beq_eq_false_iff_ne]; omega]
theorem word_read {s : Bool} {r : Nat} (h : r ≤ one) : ∃ m p : Nat, double.read (double.word s r) = .number s m ((p : Int) - 1074) ∧ m * 2 ^ p = V r := by
  cases s
  · exact read_le h
  · unfold one at h
    rw [word_eq, if_pos rfl]
    have e : (9223372036854775808 + r) % 9223372036854775808 = r := by omega
    obtain ⟨m, p, h1, h2, _⟩ := read_fin (x := 9223372036854775808 + r) (by omega)
    rw [e] at h2
    refine ⟨m, p, ?_, h2⟩
    rw [h1, show ((9223372036854775808 + r) / 9223372036854775808 % 2 == 1) = true by rw [beq_iff_eq]; omega]

theorem sub_fin {x y : Nat} (hx : x ≤ one) (hy : y ≤ one) : ∃ s r, double.sub x y = some (double.word s r) ∧ r ≤ one ∧ (x = y → s = false ∧ r = 0) := by
  obtain ⟨m, p, e1, v1⟩ := read_le hx
  obtain ⟨n, q, e2, v2⟩ := read_le hy
  have hvx := V_le hx
  have hvy := V_le hy
  unfold Format.sub
  rw [e1, e2]
  simp only [Datum.opposite, Datum.sum, Option.map_some, Format.write]
  have f1 : (((p : Int) - 1074) - min ((p : Int) - 1074) ((q : Int) - 1074)).toNat = p - min p q := by omega
  have f2 : (((q : Int) - 1074) - min ((p : Int) - 1074) ((q : Int) - 1074)).toNat = q - min p q := by omega
  have f3 : min ((p : Int) - 1074) ((q : Int) - 1074) = ((min p q : Nat) : Int) - 1074 := by omega
  rw [f1, f2, f3]
  simp only [signed_eq, Bool.not_false, if_true, Bool.false_eq_true, if_false, Bool.false_and]
  have g1 : m * 2 ^ p = m * 2 ^ (p - min p q) * 2 ^ min p q := by rw [Nat.mul_assoc, ← Nat.pow_add]; congr 2; omega
  have g2 : n * 2 ^ q = n * 2 ^ (q - min p q) * 2 ^ min p q := by rw [Nat.mul_assoc, ← Nat.pow_add]; congr 2; omega
  generalize m * 2 ^ (p - min p q) = a at *
  generalize n * 2 ^ (q - min p q) = b at *
  have hk : (((a : Int) + -(b : Int)).natAbs) * 2 ^ min p q ≤ V one := by
    have h1 : ((a : Int) + -(b : Int)).natAbs ≤ max a b := by omega
    calc ((a : Int) + -(b : Int)).natAbs * 2 ^ min p q ≤ max a b * 2 ^ min p q := Nat.mul_le_mul_right _ h1
      _ ≤ V one := by
        rcases Nat.le_total a b with h | h
        · rw [Nat.max_eq_right h]; omega
        · rw [Nat.max_eq_left h]; omega
  generalize hneg : (if ((a : Int) + -(b : Int)) = 0 then false else decide ((a : Int) + -(b : Int) < 0)) = sg
  obtain ⟨r, h1, _, h2, _⟩ := nearest_rung sg ((a : Int) + -(b : Int)).natAbs (((min p q : Nat) : Int) - 1074) (min p q) 0 (by omega)
  have h3 := h2 one (by rw [Nat.pow_zero, Nat.mul_one]; exact hk)
  refine ⟨_, r, by rw [← h1], h3, ?_⟩
  intro hxy
  subst hxy
  have hab : a = b := by
    have hp : 0 < 2 ^ min p q := Nat.two_pow_pos _
    have h5 : a * 2 ^ min p q = b * 2 ^ min p q := by omega
    exact Nat.eq_of_mul_eq_mul_right hp h5
  subst hab
  rw [show (a : Int) + -(a : Int) = 0 by omega] at hneg h2
  refine ⟨by rw [← hneg]; rfl, ?_⟩
  have := h2 0 (by simp)
  omega

theorem mul_fin {s : Bool} {r y : Nat} (hr : r ≤ one) (hy : y ≤ one) : ∃ s' r', double.mul (double.word s r) y = some (double.word s' r') ∧ r' ≤ one ∧ (r = 0 ∨ y = 0 → r' = 0) := by
  obtain ⟨m, p, e1, v1⟩ := word_read (s := s) hr
  obtain ⟨n, q, e2, v2⟩ := read_le hy
  have hvr := V_le hr
  have hvy := V_le hy
  unfold Format.mul
  rw [e1, e2]
  simp only [Datum.product, Option.map_some, Format.write]
  have hv : m * n * 2 ^ (p + q) = V r * V y := by
    rw [← v1, ← v2, Nat.pow_add]; simp only [Nat.mul_assoc, Nat.mul_left_comm]
  obtain ⟨r', h1, _, h2, _⟩ := nearest_rung (s ^^ false) (m * n) (((p : Int) - 1074) + ((q : Int) - 1074)) (p + q) P74 (by unfold P74; omega)
  have h3 : r' ≤ r := by
    refine h2 r ?_
    rw [hv]
    refine Nat.mul_le_mul_left _ ?_
    rw [← V_one]; exact hvy
  refine ⟨_, r', by rw [h1], by omega, fun h => ?_⟩
  have : r' ≤ 0 := by
    refine h2 0 ?_
    rw [hv]
    rcases h with h | h <;> subst h <;> rw [V_zero] <;> simp
  omega

theorem add_fin {s : Bool} {x r : Nat} (hx : x ≤ one) (hr : r ≤ one) : ∃ t, double.add x (double.word s r) = some t ∧ (r = 0 → t = x) := by
  obtain ⟨m, p, e1, v1⟩ := read_le hx
  obtain ⟨n, q, e2, v2⟩ := word_read (s := s) hr
  unfold Format.add
  rw [e1, e2]
  simp only [Datum.sum, Option.map_some, Format.write]
  refine ⟨_, rfl, ?_⟩
  intro h0
  subst h0
  rw [V_zero] at v2
  have hn : n = 0 := by
    rcases Nat.mul_eq_zero.1 v2 with h | h
    · exact h
    · have : 0 < 2 ^ q := Nat.two_pow_pos _; omega
  subst hn
  have f1 : (((p : Int) - 1074) - min ((p : Int) - 1074) ((q : Int) - 1074)).toNat = p - min p q := by omega
  have f3 : min ((p : Int) - 1074) ((q : Int) - 1074) = ((min p q : Nat) : Int) - 1074 := by omega
  rw [f1, f3]
  simp only [signed_eq, Bool.false_eq_true, if_false, Nat.zero_mul]
  have g1 : m * 2 ^ p = m * 2 ^ (p - min p q) * 2 ^ min p q := by rw [Nat.mul_assoc, ← Nat.pow_add]; congr 2; omega
  generalize m * 2 ^ (p - min p q) = a at *
  have hz : ((a : Int) + (if s = true then -((0 : Nat) : Int) else ((0 : Nat) : Int))) = a := by split <;> simp
  rw [hz]
  have hs : (if (a : Int) = 0 then false && s else decide ((a : Int) < 0)) = false := by
    split
    · rfl
    · exact decide_eq_false (by omega)
  rw [hs]
  unfold one at hx
  rw [nearest_exact false _ _ (min p q) 0 x (by omega) (by omega) (by rw [Int.natAbs_natCast, Nat.pow_zero, Nat.mul_one, ← g1]; exact v1)]
  rfl

/-- the moving average, on words -/
def blendW (old now by_ : Nat) : Nat :=
  clampW (((double.add (clampW old) (((double.mul ((double.sub (clampW now) (clampW old)).getD 0) (clampW by_))).getD 0))).getD 0)

theorem blend_steps (old now by_ : Nat) : ∃ d p t, double.sub (clampW now) (clampW old) = some d ∧ double.mul d (clampW by_) = some p ∧ double.add (clampW old) p = some t ∧ Wd d ∧ Wd p ∧ clampW t = blendW old now by_ := by
  obtain ⟨s, r, h1, hr, _⟩ := sub_fin (clampW_le now) (clampW_le old)
  obtain ⟨s', r', h2, hr', _⟩ := mul_fin (s := s) hr (clampW_le by_)
  obtain ⟨t, h3, _⟩ := add_fin (s := s') (clampW_le old) hr'
  have hw : ∀ (s : Bool) (r : Nat), r ≤ one → Wd (double.word s r) := by
    intro s r h; unfold one at h; rw [word_eq]; unfold Wd; split <;> omega
  refine ⟨_, _, t, h1, h2, h3, hw _ _ hr, hw _ _ hr', ?_⟩
  unfold blendW
  rw [h1, Option.getD_some, h2, Option.getD_some, h3, Option.getD_some]
theorem blendW_le (a b c : Nat) : blendW a b c ≤ one := clampW_le _
theorem blendW_same (a c : Nat) : blendW a a c = clampW a := by
  obtain ⟨s, r, h1, hr, h0⟩ := sub_fin (clampW_le a) (clampW_le a)
  obtain ⟨rfl, rfl⟩ := h0 rfl
  obtain ⟨s', r', h2, hr', h0'⟩ := mul_fin (s := false) hr (clampW_le c)
  obtain rfl := h0' (Or.inl rfl)
  obtain ⟨t, h3, h4⟩ := add_fin (s := s') (clampW_le a) hr'
  unfold blendW
  rw [h1, Option.getD_some, h2, Option.getD_some, h3, Option.getD_some, h4 rfl, clampW_self (clampW_le a)]
theorem blendW_none (a b c : Nat) (hc : clampW c = 0) : blendW a b c = clampW a := by
  obtain ⟨s, r, h1, hr, _⟩ := sub_fin (clampW_le b) (clampW_le a)
  obtain ⟨s', r', h2, hr', h0'⟩ := mul_fin (s := s) hr (clampW_le c)
  obtain rfl := h0' (Or.inr hc)
  obtain ⟨t, h3, h4⟩ := add_fin (s := s') (clampW_le a) hr'
  unfold blendW
  rw [h1, Option.getD_some, h2, Option.getD_some, h3, Option.getD_some, h4 rfl, clampW_self (clampW_le a)]

/-- which one is the greater -/
def orderI (a b : Nat) : Int := if T a < T b then -1 else if T b < T a then 1 else 0

/-- a number from a count -/
def intW (n : Nat) : Nat := double.nearest false n 0
theorem V_64 : V 4895412794951729152 = 2 ^ (P74 + 64) := V_at' (1022 + 64) (P74 + 64) 4895412794951729152 rfl rfl
theorem intW_rung (n : Nat) : intW n ≤ 9218868437227405312 ∧ (∀ r, n * 2 ^ P74 ≤ V r → intW n ≤ r) ∧ (∀ r, r ≤ 9218868437227405312 → V r ≤ n * 2 ^ P74 → r ≤ intW n) := by
  obtain ⟨q, h1, h0, h2, h3⟩ := nearest_rung false n 0 P74 0 (by unfold P74; omega)
  have e : intW n = q := by unfold intW; rw [h1, word_eq]; rfl
  rw [e]
  refine ⟨h0, fun r hr => h2 r (by rw [Nat.pow_zero, Nat.mul_one]; exact hr), fun r h hr => h3 r h (by rw [Nat.pow_zero, Nat.mul_one]; exact hr)⟩
theorem intW_le {n : Nat} (h : n ≤ 18446744073709551616) : intW n ≤ 4895412794951729152 := by
  refine (intW_rung n).2.1 _ ?_
  rw [V_64, Nat.pow_add, Nat.mul_comm]
  exact Nat.mul_le_mul_left _ h
theorem intW_zero : intW 0 = 0 := by
  have := (intW_rung 0).2.1 0 (by rw [Nat.zero_mul]; exact Nat.zero_le _)
  omega
theorem intW_one_le {n : Nat} (h : 1 ≤ n) : one ≤ intW n := by
  refine (intW_rung n).2.2 one (by unfold one; omega) ?_
  rw [V_one]
  have := Nat.mul_le_mul_right (2 ^ P74) h
  omega
theorem read_int {x : Nat} (h : x ≤ 4895412794951729152) : ∃ m p : Nat, double.read x = .number false m ((p : Int) - 1074) ∧ m * 2 ^ p = V x ∧ (m = 0 ↔ x = 0) ∧ (4503599627370496 ≤ x → 4503599627370496 ≤ m) ∧ m < 9007199254740992 := by
  have e : x % 9223372036854775808 = x := Nat.mod_eq_of_lt (by omega)
  obtain ⟨m, p, h1, h2, h3, h4, h5, _⟩ := read_fin (x := x) (by omega)
  rw [e] at h2 h3 h4
  refine ⟨m, p, ?_, h2, h3, h4, h5⟩
  rw [h1, show (x / 9223372036854775808 % 2 == 1) = false by rw [beq_eq_false_iff_ne]; omega]

/-- a by b, of two counts -/
def ratioW (a b : Nat) : Nat := (double.div (intW a) (intW b)).getD 0
theorem div_none : double.div (intW 0) (intW 0) = none := by
  rw [intW_zero]; rfl
theorem div_some {a b : Nat} (ha : a ≤ 18446744073709551616) (hb : b ≤ 18446744073709551616) (h : a = 0 → b = 0 → False) : double.div (intW a) (intW b) = some (ratioW a b) := by
  obtain ⟨m, p, e1, _, z1, _⟩ := read_int (intW_le ha)
  obtain ⟨n, q, e2, _, z2, _⟩ := read_int (intW_le hb)
  have : ∃ t, double.div (intW a) (intW b) = some t := by
    unfold Format.div
    rw [e1, e2]
    unfold Datum.quotient
    by_cases hn : n = 0
    · have hm : m ≠ 0 := by
        intro hm
        have h1 := z1.1 hm
        have h2 := z2.1 hn
        refine h ?_ ?_
        · rcases Nat.eq_zero_or_pos a with h3 | h3
          · exact h3
          · have := intW_one_le h3; unfold one at this; omega
        · rcases Nat.eq_zero_or_pos b with h3 | h3
          · exact h3
          · have := intW_one_le h3; unfold one at this; omega
      simp only [hn, if_true, if_neg hm]
      exact ⟨_, rfl⟩
    · simp only [hn, if_false]
      exact ⟨_, rfl⟩
  obtain ⟨t, ht⟩ := this
  unfold ratioW
  rw [ht]; rfl
/-- what 'Ratio' comes to: of 0 by 0 some value that is no number -/
def IsRatio (a b r : Nat) : Prop := Wd r ∧ (a = 0 → b = 0 → isNot r = true) ∧ ((a = 0 → b = 0 → False) → r = ratioW a b)
theorem orderI_self (a : Nat) : orderI a a = 0 := by unfold orderI; rw [if_neg (by omega), if_neg (by omega)]
theorem orderI_nots {a b : Nat} (ha : isNot a = true) (hb : isNot b = true) : orderI a b = 0 := by unfold orderI T; rw [ha, hb]; rfl
theorem ratio_same {a b q r : Nat} (hq : IsRatio a b q) (hr : IsRatio a b r) : orderI q r = 0 := by
  by_cases h : a = 0 ∧ b = 0
  · exact orderI_nots (hq.2.1 h.1 h.2) (hr.2.1 h.1 h.2)
  · rw [hq.2.2 (fun h1 h2 => h ⟨h1, h2⟩), hr.2.2 (fun h1 h2 => h ⟨h1, h2⟩)]; exact orderI_self _
theorem orderI_one {r : Nat} (h : r ≤ one) : orderI r one ≤ 0 := by
  unfold orderI T
  rw [isNot_le_one h, isNot_le_one (Nat.le_refl _)]
  unfold one at *
  have h1 : r < 9223372036854775808 := by omega
  simp only [Bool.false_eq_true, if_false, h1, if_true]
  split
  · omega
  · split <;> omega
theorem mul_one_left {y : Nat} (h : y < 9218868437227405312) : double.mul one y = some y := by
  obtain ⟨m, p, e1, v1⟩ := read_le (x := one) (Nat.le_refl _)
  have e : y % 9223372036854775808 = y := Nat.mod_eq_of_lt (by omega)
  obtain ⟨n, q, e2, v2, _⟩ := read_fin (x := y) (by omega)
  rw [e] at v2
  rw [show (y / 9223372036854775808 % 2 == 1) = false by rw [beq_eq_false_iff_ne]; omega] at e2
  unfold Format.mul
  rw [e1, e2]
  simp only [Datum.product, Option.map_some, Format.write]
  have hv : m * n * 2 ^ (p + q) = V y * 2 ^ P74 := by
    rw [Nat.pow_add, ← V_one, ← v1, ← v2]; simp only [Nat.mul_assoc, Nat.mul_left_comm, Nat.mul_comm]
  rw [nearest_exact (false ^^ false) (m * n) _ (p + q) P74 y (by unfold P74; omega) (by omega) hv, word_eq]
  rfl

/-! ### counts up to 2^53 are met exactly; by 2^53 -/
theorem intW_of {k r : Nat} (hr : r ≤ 9218868437227405312) (h : V r = k * 2 ^ P74) : intW k = r := by
  unfold intW
  rw [nearest_exact false k 0 P74 0 r (by unfold P74; omega) hr (by rw [Nat.pow_zero, Nat.mul_one]; exact h.symm), word_eq]
  rfl
theorem V_mid (g r : Nat) (hr : r < 4503599627370496) : V ((g + 1) * 4503599627370496 + r) = (4503599627370496 + r) * 2 ^ g := by
  unfold V
  rw [if_neg (by omega)]
  congr 1
  · omega
  · congr 1; omega
theorem pow53 (n : Nat) : 2 ^ (53 + n) = 9007199254740992 * 2 ^ n := by rw [Nat.pow_add]
theorem V_53 : V 4845873199050653696 = 9007199254740992 * 2 ^ P74 := by
  have h := V_at' (1022 + 53) (53 + P74) 4845873199050653696 rfl rfl
  rw [pow53] at h
  exact h
theorem intW_53 : intW 9007199254740992 = 4845873199050653696 := intW_of (k := 9007199254740992) (r := 4845873199050653696) (by omega) V_53
theorem intW_exact {k : Nat} (h0 : 1 ≤ k) (h : k ≤ 9007199254740992) : V (intW k) = k * 2 ^ P74 ∧ 4607182418800017408 ≤ intW k ∧ intW k ≤ 4845873199050653696 := by
  by_cases hk : k = 9007199254740992
  · subst hk
    rw [intW_53]
    exact ⟨V_53, by omega, by omega⟩
  · have hl1 : 2 ^ k.log2 ≤ k := Nat.log2_self_le (by omega)
    have hl2 : k < 2 ^ (k.log2 + 1) := Nat.lt_log2_self
    have hl : k.log2 ≤ 52 := by
      have : k.log2 < 53 := (Nat.log2_lt (by omega)).2 (by omega)
      omega
    generalize k.log2 = l at *
    have e1 : 2 ^ l * 2 ^ (52 - l) = 4503599627370496 := by
      rw [← Nat.pow_add, show l + (52 - l) = 52 by omega]
    have e2 : 2 ^ (l + 1) * 2 ^ (52 - l) = 9007199254740992 := by
      rw [← Nat.pow_add, show l + 1 + (52 - l) = 53 by omega]
    have hp : 0 < 2 ^ (52 - l) := Nat.two_pow_pos _
    have m1 : 4503599627370496 ≤ k * 2 ^ (52 - l) := by rw [← e1]; exact Nat.mul_le_mul_right _ hl1
    have m2 : k * 2 ^ (52 - l) < 9007199254740992 := by rw [← e2]; exact Nat.mul_lt_mul_of_pos_right hl2 hp
    have hV : V ((l + 1022 + 1) * 4503599627370496 + (k * 2 ^ (52 - l) - 4503599627370496)) = k * 2 ^ P74 := by
      rw [V_mid _ _ (by omega), show 4503599627370496 + (k * 2 ^ (52 - l) - 4503599627370496) = k * 2 ^ (52 - l) by omega, Nat.mul_assoc, ← Nat.pow_add, show 52 - l + (l + 1022) = P74 by unfold P74; omega]
    generalize k * 2 ^ (52 - l) = q at *
    clear e1 e2 hp hl1 hl2
    rw [intW_of (by omega) hV]
    exact ⟨hV, by omega, by omega⟩

def P21 : Nat := 1021
/-- k by 2^53 -/
def ldW (k : Nat) : Nat := if k = 0 then 0 else intW k - 238690780250636288
theorem V_down {x : Nat} (h : 4607182418800017408 ≤ x) : V (x - 238690780250636288) * 2 ^ 53 = V x := by
  unfold V
  rw [if_neg (by omega), if_neg (by omega), Nat.mul_assoc, ← Nat.pow_add, show (x - 238690780250636288) % 4503599627370496 = x % 4503599627370496 by omega,
    show (x - 238690780250636288) / 4503599627370496 - 1 + 53 = x / 4503599627370496 - 1 by omega]
theorem V_ldW {k : Nat} (h : k ≤ 9007199254740992) : V (ldW k) = k * 2 ^ P21 := by
  unfold ldW
  by_cases h0 : k = 0
  · rw [if_pos h0, V_zero, h0, Nat.zero_mul]
  · rw [if_neg h0]
    obtain ⟨h1, h2, _⟩ := intW_exact (by omega) h
    have h3 := V_down h2
    rw [h1, show P74 = P21 + 53 from rfl, Nat.pow_add, ← Nat.mul_assoc] at h3
    exact Nat.eq_of_mul_eq_mul_right (by omega) h3
theorem ldW_lt {a b : Nat} (ha : a ≤ 9007199254740992) (hb : b ≤ 9007199254740992) : ldW a < ldW b ↔ a < b := by
  have hp : 0 < 2 ^ P21 := Nat.two_pow_pos _
  rw [← V_lt_iff, V_ldW ha, V_ldW hb]
  exact Nat.mul_lt_mul_right hp
theorem ldW_top : ldW 9007199254740992 = one := by
  unfold ldW
  rw [if_neg (by omega)]
  rw [intW_53]
  rfl
theorem ldW_le {k : Nat} (h : k ≤ 9007199254740992) : ldW k ≤ one := by
  have := @ldW_lt 9007199254740992 k (by omega) h
  rw [ldW_top] at this
  omega
theorem ldW_pos {k : Nat} (h : k ≤ 9007199254740992) (h0 : 0 < k) : 0 < ldW k := by
  have := @ldW_lt 0 k (by omega) h
  rw [show ldW 0 = 0 from rfl] at this
  omega

/-- is it let in? -/
def admitW (p d : Nat) : Bool := !isNot p && decide (0 < K p) && (decide ((one : Int) ≤ K p) || decide ((ldW d : Int) < K p))
theorem admit_count {k d : Nat} (hk : k ≤ 9007199254740992) (hd : d ≤ 9007199254740991) : admitW (ldW k) d = decide (d < k) := by
  have h1 := ldW_le hk
  unfold admitW
  rw [isNot_le_one h1, K_le_one h1]
  have h2 := @ldW_lt d k (by omega) hk
  by_cases h0 : k = 0
  · subst h0
    rw [show ldW 0 = 0 from rfl, decide_eq_false (show ¬ d < 0 by omega)]
    rfl
  · have h3 := ldW_pos hk (by omega)
    have h4 := @ldW_lt k 9007199254740992 hk (by omega)
    rw [ldW_top] at h4
    rw [decide_eq_true (show (0 : Int) < (ldW k : Int) by omega)]
    simp only [Bool.not_false, Bool.true_and]
    by_cases h5 : d < k
    · rw [decide_eq_true h5, decide_eq_true (show (ldW d : Int) < (ldW k : Int) by have := h2.2 h5; omega)]; simp
    · rw [decide_eq_false h5, decide_eq_false (show ¬ (ldW d : Int) < (ldW k : Int) by intro h; exact h5 (h2.1 (by omega))), decide_eq_false (show ¬ (one : Int) ≤ (ldW k : Int) by have := h4.2 (by omega); omega)]; rfl
theorem ldW_wd {k : Nat} (h : k ≤ 9007199254740992) : Wd (ldW k) := le_one_wd (ldW_le h)

/-! ### the document's order of bits -/
def L (x : Nat) : Int := if x < 9223372036854775808 then (x : Int) else -((x : Int) - 9223372036854775808) - 1
def lessB (a b : Nat) : Bool := decide (L a < L b)
theorem T_num {x : Nat} (h : isNot x = false) : T x = L x := by unfold T L; rw [h]; rfl
theorem L_K {x : Nat} (hx : Wd x) : L x ≤ K x ∧ K x ≤ L x + 1 ∧ (0 ≤ L x → K x = L x) := by
  unfold L K; unfold Wd at hx; split <;> omega
theorem admit_mono {x y d : Nat} (hx : Wd x) (hy : Wd y) (nx : isNot x = false) (ny : isNot y = false) (h : L x ≤ L y) (ha : admitW x d = true) : admitW y d = true := by
  unfold admitW at *
  rw [nx] at ha
  rw [ny]
  simp only [Bool.not_false, Bool.true_and, Bool.and_eq_true, Bool.or_eq_true, decide_eq_true_eq] at ha ⊢
  have h1 : K x ≤ K y := by
    unfold L at h; unfold K; unfold Wd at hx hy
    split at h <;> split at h <;> rename_i c1 c2 <;> simp only [c1, c2, if_true, if_false] <;> omega
  omega
theorem admit_draw {x d e : Nat} (hd : d ≤ 9007199254740992) (h : e ≤ d) (ha : admitW x d = true) : admitW x e = true := by
  unfold admitW at *
  simp only [Bool.and_eq_true, Bool.or_eq_true, decide_eq_true_eq] at ha ⊢
  have h1 : ldW e ≤ ldW d := by
    rcases Nat.lt_or_ge e d with h2 | h2
    · exact Nat.le_of_lt ((ldW_lt (by omega) hd).2 h2)
    · rw [show e = d by omega]; exact Nat.le_refl _
  exact ⟨ha.1, by have := ha.2; omega⟩

theorem admit_digits {p d M down : Nat} (h0 : 0 < p) (h1 : p < one) (hd : d ≤ 9007199254740992) (hM : 0 < M) (hV : V p * 2 ^ down = M * 2 ^ P21) : admitW p d = decide (d ≤ (M - 1) / 2 ^ down) := by
  unfold admitW
  rw [isNot_le_one (Nat.le_of_lt h1), K_le_one (Nat.le_of_lt h1), decide_eq_true (show (0 : Int) < p by omega), decide_eq_false (show ¬ (one : Int) ≤ p by omega)]
  simp only [Bool.not_false, Bool.true_and, Bool.false_or]
  have hp : 0 < 2 ^ down := Nat.two_pow_pos _
  have hq : 0 < 2 ^ P21 := Nat.two_pow_pos _
  have e1 : ldW d < p ↔ d * 2 ^ down < M := by
    rw [← V_lt_iff, V_ldW hd, ← Nat.mul_lt_mul_right hp (b := d * 2 ^ P21), hV, Nat.mul_right_comm, Nat.mul_lt_mul_right hq]
  have e2 : d ≤ (M - 1) / 2 ^ down ↔ d * 2 ^ down ≤ M - 1 := Nat.le_div_iff_mul_le hp
  by_cases c : d * 2 ^ down < M
  · rw [decide_eq_true (show (ldW d : Int) < (p : Int) by have := e1.2 c; omega), decide_eq_true (e2.2 (by omega))]
  · rw [decide_eq_false (show ¬ (ldW d : Int) < (p : Int) by intro h; exact c (e1.1 (by omega))), decide_eq_false (by intro h; have := e2.1 h; omega)]
theorem admit_high {p d e : Nat} (h1 : p < 4607182418800017408) (he : e = p / 4503599627370496) (h0 : 1 ≤ e) (hd : d ≤ 9007199254740992) :
    admitW p d = decide (d ≤ (4503599627370496 + p % 4503599627370496 - 1) / 2 ^ (1022 - e)) := by
  have hp : 0 < p := by omega
  refine admit_digits hp (by unfold one; omega) hd (by omega) ?_
  have hv : V p = (4503599627370496 + p % 4503599627370496) * 2 ^ (e - 1) := by unfold V; rw [if_neg (by omega), he]
  rw [hv, Nat.mul_assoc, ← Nat.pow_add, show e - 1 + (1022 - e) = P21 by unfold P21; omega]
theorem admit_low {p d : Nat} (h0 : 0 < p) (h1 : p < 4503599627370496) (hd : d ≤ 9007199254740992) : admitW p d = decide (d ≤ (p - 1) / 2 ^ P21) := by
  refine admit_digits h0 (by unfold one; omega) hd h0 ?_
  rw [show V p = p by unfold V; rw [if_pos h1]]
theorem div_step (n i : Nat) : n / 2 ^ (i + 1) = n / 2 ^ i / 2 := by rw [Nat.pow_succ, Nat.div_div_eq_div_mul]
theorem div_gone {n i k : Nat} (h : n / 2 ^ i = 0) (hk : i ≤ k) : n / 2 ^ k = 0 := by
  have hp : 0 < 2 ^ i := Nat.two_pow_pos _
  have h1 : n < 2 ^ i := (Nat.div_eq_zero_iff_lt hp).1 h
  exact Nat.div_eq_of_lt (Nat.lt_of_lt_of_le h1 (Nat.pow_le_pow_right (by omega) hk))
end Go.Proofs.YtdgphhpeebieaaaDoor.FP
