/-
  WALK: chance.Text.
-/
import Derived.Test.YtdgphhpeebieaaaDoorCo
import Derived.Test.YtdgphhpeebieaaaDoorLd
import Derived.Test.YtdgphhpeebieaaaDoorFu
import Derived.Test.YtdgphhpeebieaaaDoorShR
namespace Go.Proofs.YtdgphhpeebieaaaDoor
open Go.RowKit FP Hx
set_option linter.unusedVariables false

def negW (x : Nat) : Nat := if x < 9223372036854775808 then x + 9223372036854775808 else x - 9223372036854775808
theorem negW_eq (x : Nat) (h : Wd x) : Op.negFloat .f64 x = negW x := by
  unfold Wd at h
  show x ^^^ 2 ^ 63 = negW x
  unfold negW
  by_cases c : x < 9223372036854775808
  · rw [if_pos c, Nat.xor_comm, show x + 9223372036854775808 = 2 ^ 63 + x by omega]
    apply Nat.eq_of_testBit_eq
    intro i
    rw [Nat.testBit_xor, Nat.testBit_two_pow]
    by_cases hi : i = 63
    · subst hi
      rw [Nat.testBit_two_pow_add_eq]
      have : x.testBit 63 = false := Nat.testBit_lt_two_pow c
      simp [this]
    · by_cases h63 : i < 63
      · rw [Nat.testBit_two_pow_add_gt h63, decide_eq_false (by omega)]; simp
      · have e1 : x.testBit i = false := Nat.testBit_lt_two_pow (Nat.lt_of_lt_of_le c (by rw [show (9223372036854775808 : Nat) = 2 ^ 63 by decide]; exact Nat.pow_le_pow_right (by omega) (by omega)))
        have e2 : (2 ^ 63 + x).testBit i = false := Nat.testBit_lt_two_pow (Nat.lt_of_lt_of_le (show 2 ^ 63 + x < 2 ^ 64 by omega) (Nat.pow_le_pow_right (by omega) (by omega)))
        rw [e1, e2, decide_eq_false (by omega)]; rfl
  · rw [if_neg c]
    obtain ⟨y, hy, hlt⟩ : ∃ y, x = 2 ^ 63 + y ∧ y < 2 ^ 63 := ⟨x - 9223372036854775808, by omega, by omega⟩
    rw [hy, show 2 ^ 63 + y - 9223372036854775808 = y by omega]
    apply Nat.eq_of_testBit_eq
    intro i
    rw [Nat.testBit_xor, Nat.testBit_two_pow]
    by_cases hi : i = 63
    · subst hi
      rw [Nat.testBit_two_pow_add_eq]
      have : y.testBit 63 = false := Nat.testBit_lt_two_pow hlt
      simp [this]
    · by_cases h63 : i < 63
      · rw [Nat.testBit_two_pow_add_gt h63, decide_eq_false (by omega)]; simp
      · have e1 : y.testBit i = false := Nat.testBit_lt_two_pow (Nat.lt_of_lt_of_le hlt (Nat.pow_le_pow_right (by omega) (by omega)))
        have e2 : (2 ^ 63 + y).testBit i = false := Nat.testBit_lt_two_pow (Nat.lt_of_lt_of_le (show 2 ^ 63 + y < 2 ^ 64 by omega) (Nat.pow_le_pow_right (by omega) (by omega)))
        rw [e1, e2, decide_eq_false (by omega)]; rfl

theorem isInf_pos (x : Nat) (hx : Hid (Wd x)) (hn : isNot x = false) (w : World) :
    Calls Tryd.prog 49 #[.float .f64 x, .int .i64 1] w fun e w' => e = .returned (.bool (decide (x = 9218868437227405312))) ∧ w = w' := by
  have g1 : (FloatKind.f64.format.order x 9218868437227405311 == some Ordering.gt) = decide (x = 9218868437227405312) := by
    rw [f64_fmt, ord_gt hx.out (by unfold Wd; omega), hn, show K 9218868437227405311 = 9218868437227405311 from rfl, show isNot 9218868437227405311 = false by decide]
    have h1 := isNot_false hn
    have h2 := hx.out
    unfold Wd at h2
    simp only [Bool.not_false, Bool.true_and]
    congr 1
    unfold K
    rw [eq_iff_iff]
    split <;> omega
  clear hn
  go_enter Tryd.func49, Tryd.ntmps49
  go_wp2
  go_ret
  exact ⟨rfl, rfl⟩

theorem isInf_neg (x : Nat) (hx : Hid (Wd x)) (hn : isNot x = false) (w : World) :
    Calls Tryd.prog 49 #[.float .f64 x, .int .i64 (-1)] w fun e w' => e = .returned (.bool (decide (x = 18442240474082181120))) ∧ w = w' := by
  have g0 : (Op.unary UnOp.neg (.float .f64 x)).run Tryd.prog w = .ok (.float .f64 (negW x)) w := by
    rw [← negW_eq x hx.out]; rfl
  have g1 : (FloatKind.f64.format.order (negW x) 9218868437227405311 == some Ordering.gt) = decide (x = 18442240474082181120) := by
    have h1 := isNot_false hn
    have h2 := hx.out
    unfold Wd at h2
    have h3 : Wd (negW x) := by unfold Wd negW; split <;> omega
    have h4 : isNot (negW x) = false := by unfold isNot negW; exact decide_eq_false (by split <;> omega)
    rw [f64_fmt, ord_gt h3 (by unfold Wd; omega), h4, show K 9218868437227405311 = 9218868437227405311 from rfl, show isNot 9218868437227405311 = false by decide]
    simp only [Bool.not_false, Bool.true_and]
    congr 1
    unfold K negW
    rw [eq_iff_iff]
    split <;> split <;> omega
  clear hn
  go_enter Tryd.func49, Tryd.ntmps49
  go_wp2
  go_ret
  exact ⟨rfl, rfl⟩

/-- a number as a text -/
def textL (x : Nat) : List UInt8 :=
  if isNot x then [110, 111, 110, 101] else if x = 9218868437227405312 then [97, 108, 108] else if x = 18442240474082181120 then [45, 97, 108, 108]
  else List.replicate (16 - (hexL x).length) 48 ++ hexL x

theorem str_append (a b : List UInt8) : (⟨a.toArray⟩ : ByteArray) ++ (⟨b.toArray⟩ : ByteArray) = ⟨(a ++ b).toArray⟩ := by
  apply ByteArray.ext
  rw [ByteArray.data_append]
  simp
theorem repeat_zero (c : Nat) : Lib.repeatL (⟨#[48]⟩ : ByteArray).data.toList c = List.replicate c 48 := by
  induction c with
  | zero => rfl
  | succ c ih => rw [Lib.repeatL, ih, List.replicate_succ]; rfl

theorem text_any (x : Nat) (hx : Hid (Wd x)) (w : World) (hT : Hid (Tab16 w)) :
    Calls Tryd.prog 24 #[.float .f64 x] w fun e w' => e = .returned (.string ⟨(textL x).toArray⟩) ∧ Below w.heap.size w w' := by
  cases hn : isNot x
  · have Hn := Lib.hid hn
    by_cases c1 : x = 9218868437227405312
    · have d1 : decide (x = 9218868437227405312) = true := decide_eq_true c1
      have fin : Hid (textL x = [97, 108, 108]) := by show _ = _; unfold textL; rw [hn, if_pos c1]; rfl
      clear hn c1
      go_enter Tryd.func24, Tryd.ntmps24
      go_wp2_with fail
      refine (isNaN_any x hx _).mono ?_
      rintro e w' ⟨rfl, rfl⟩
      rw [Hn.out]
      go_wp2_with fail
      refine (isInf_pos x hx Hn.out _).mono ?_
      rintro e w' ⟨rfl, rfl⟩
      rw [d1]
      go_wp2_with fail
      go_ret
      exact ⟨by rw [fin.out]; rfl, Below.refl _ _⟩
    · have d1 : decide (x = 9218868437227405312) = false := decide_eq_false c1
      by_cases c2 : x = 18442240474082181120
      · have d2 : decide (x = 18442240474082181120) = true := decide_eq_true c2
        have fin : Hid (textL x = [45, 97, 108, 108]) := by show _ = _; unfold textL; rw [hn, if_neg c1, if_pos c2]; rfl
        clear hn c1 c2
        go_enter Tryd.func24, Tryd.ntmps24
        go_wp2_with fail
        refine (isNaN_any x hx _).mono ?_
        rintro e w' ⟨rfl, rfl⟩
        rw [Hn.out]
        go_wp2_with fail
        refine (isInf_pos x hx Hn.out _).mono ?_
        rintro e w' ⟨rfl, rfl⟩
        rw [d1]
        go_wp2_with fail
        refine (isInf_neg x hx Hn.out _).mono ?_
        rintro e w' ⟨rfl, rfl⟩
        rw [d2]
        go_wp2_with fail
        go_ret
        exact ⟨by rw [fin.out]; rfl, Below.refl _ _⟩
      · have d2 : decide (x = 18442240474082181120) = false := decide_eq_false c2
        have fin : Hid (textL x = List.replicate (16 - (hexL x).length) 48 ++ hexL x) := by show _ = _; unfold textL; rw [hn, if_neg c1, if_neg c2]; rfl
        clear hn c1 c2
        go_enter Tryd.func24, Tryd.ntmps24
        go_wp2_with fail
        refine (isNaN_any x hx _).mono ?_
        rintro e w' ⟨rfl, rfl⟩
        rw [Hn.out]
        go_wp2_with fail
        refine (isInf_pos x hx Hn.out _).mono ?_
        rintro e w' ⟨rfl, rfl⟩
        rw [d1]
        go_wp2_with fail
        refine (isInf_neg x hx Hn.out _).mono ?_
        rintro e w' ⟨rfl, rfl⟩
        rw [d2]
        go_wp2_with fail
        refine (formatUint16 x hx _ hT).mono ?_
        rintro e w1 ⟨rfl, hb⟩
        have Hb := Lib.hid hb
        clear hb
        have hl := hexL_length x
        obtain ⟨l, hl'⟩ : ∃ l, l = hexL x := ⟨_, rfl⟩
        rw [← hl'] at hl fin ⊢
        clear hl'
        go_wp2_with fail
        rw [show (16 - (l.length : Int)) = ((16 - l.length : Nat) : Int) from by omega]
        refine (Tryd.strings_Repeat ⟨#[48]⟩ (16 - l.length) _ (by omega) (by show 1 * (16 - l.length) ≤ _; omega)).mono ?_
        rintro e w2 ⟨rfl, hb⟩
        have Hb2 := Lib.hid hb
        clear hb
        rw [repeat_zero]
        obtain ⟨z, hz⟩ : ∃ z, z = List.replicate (16 - l.length) (48 : UInt8) := ⟨_, rfl⟩
        rw [← hz] at fin ⊢
        have hzl : z.length ≤ 16 := by rw [hz]; simp
        clear hz
        go_wp2_with fail
        go_ret
        refine ⟨?_, Hb.out.trans (Hb2.out.mono Hb.out.size)⟩
        rw [fin.out]
        have e := str_append z l
        simp only [e]
        rfl
  · have Hn := Lib.hid hn
    have fin : Hid (textL x = [110, 111, 110, 101]) := by show _ = _; unfold textL; rw [hn]; rfl
    clear hn
    go_enter Tryd.func24, Tryd.ntmps24
    go_wp2_with fail
    refine (isNaN_any x hx _).mono ?_
    rintro e w' ⟨rfl, rfl⟩
    rw [Hn.out]
    go_wp2_with fail
    go_ret
    exact ⟨by rw [fin.out]; rfl, Below.refl _ _⟩
end Go.Proofs.YtdgphhpeebieaaaDoor
