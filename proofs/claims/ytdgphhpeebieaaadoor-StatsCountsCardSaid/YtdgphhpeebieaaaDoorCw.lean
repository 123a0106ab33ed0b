/-
  WALKS: package chance's small functions, each shown to come to its plain function on words (Fq).
-/
import Derived.Test.YtdgphhpeebieaaaDoorChecked
import Derived.Test.YtdgphhpeebieaaaDoorFq
import Derived.WalkKit
import Derived.WalkLawsBesides
import Derived.WalkSpells
import Derived.Lib.Hide
import Derived.Outline
namespace Go.Proofs.YtdgphhpeebieaaaDoor
open Go.RowKit FP
set_option linter.unusedVariables false

theorem f64_fmt : FloatKind.f64.format = Ieee.double := rfl

@[go_sem] theorem bits_call (b : Nat) (w : World) : (callFunc 25 #[.float .f64 b]).run Tryd.prog w = .ok (.value (.int .u64 b)) w :=
  (run_callFunc_extern (e := Extern.MathFloatBits.float64bits) Tryd.func25 (by kernel_rfl) (by kernel_rfl) (by kernel_rfl) (by kernel_rfl) _ w).trans rfl
@[go_sem] theorem frombits_call (n : Int) (w : World) : (callFunc 16 #[.int .u64 n]).run Tryd.prog w = .ok (.value (.float .f64 n.toNat)) w :=
  (run_callFunc_extern (e := Extern.MathFloatBits.float64frombits) Tryd.func16 (by kernel_rfl) (by kernel_rfl) (by kernel_rfl) (by kernel_rfl) _ w).trans rfl

theorem isNaN_any (x : Nat) (hx : Hid (Wd x)) (w : World) :
    Calls Tryd.prog 47 #[.float .f64 x] w fun e w' => e = .returned (.bool (isNot x)) ∧ w = w' := by
  have h := ord_eq hx hx
  have hb : (Ieee.double.order x x != some Ordering.eq) = isNot x := by
    rw [bne, h]; cases isNot x <;> simp
  rw [← f64_fmt] at hb
  clear h
  go_enter Tryd.func47, Tryd.ntmps47
  go_wp2
  go_ret
  refine ⟨?_, rfl⟩
  rfl

theorem clamp_any (x : Nat) (hx : Hid (Wd x)) (w : World) :
    Calls Tryd.prog 27 #[.float .f64 x] w fun e w' => e = .returned (.float .f64 (clampW x)) ∧ w = w' := by
  have h1 := ord_gt hx one_wd
  have h2 := ord_gt hx (show Wd 0 by unfold Wd; omega)
  have k1 : isNot one = false := by decide
  have k2 : isNot 0 = false := by decide
  rw [k1] at h1
  rw [k2] at h2
  have e1 : K one = (one : Int) := K_le_one (Nat.le_refl _)
  have e2 : K 0 = 0 := rfl
  rw [e1] at h1
  rw [e2] at h2
  cases hn : isNot x
  · rw [hn] at h1 h2
    by_cases c1 : (one : Int) < K x
    · have g1 : (FloatKind.f64.format.order x 4607182418800017408 == some Ordering.gt) = true := by rw [f64_fmt]; show (Ieee.double.order x one == _) = _; rw [h1]; simpa using c1
      have fin : Hid (clampW x = 4607182418800017408) := by show _ = _; unfold clampW; rw [hn, if_pos c1]; rfl
      clear h1 h2 k1 k2 e1 e2 hn c1
      go_enter Tryd.func27, Tryd.ntmps27
      go_wp2
      go_ret
      exact ⟨by rw [fin.out]; rfl, rfl⟩
    · have g1 : (FloatKind.f64.format.order x 4607182418800017408 == some Ordering.gt) = false := by rw [f64_fmt]; show (Ieee.double.order x one == _) = _; rw [h1]; simpa using c1
      by_cases c2 : 0 < K x
      · have g2 : (FloatKind.f64.format.order x 0 == some Ordering.gt) = true := by rw [f64_fmt, h2]; simpa using c2
        have fin : Hid (clampW x = x) := by show _ = _; unfold clampW; rw [hn, if_neg c1, if_pos c2]; rfl
        clear h1 h2 k1 k2 e1 e2 hn c1 c2
        go_enter Tryd.func27, Tryd.ntmps27
        go_wp2
        go_ret
        exact ⟨by rw [fin.out]; rfl, rfl⟩
      · have g2 : (FloatKind.f64.format.order x 0 == some Ordering.gt) = false := by rw [f64_fmt, h2]; simpa using c2
        have fin : Hid (clampW x = 0) := by show _ = _; unfold clampW; rw [hn, if_neg c1, if_neg c2]; rfl
        clear h1 h2 k1 k2 e1 e2 hn c1 c2
        go_enter Tryd.func27, Tryd.ntmps27
        go_wp2
        go_ret
        exact ⟨by rw [fin.out]; rfl, rfl⟩
  · rw [hn] at h1 h2
    have g1 : (FloatKind.f64.format.order x 4607182418800017408 == some Ordering.gt) = false := by rw [f64_fmt]; show (Ieee.double.order x one == _) = _; rw [h1]; rfl
    have g2 : (FloatKind.f64.format.order x 0 == some Ordering.gt) = false := by rw [f64_fmt, h2]; rfl
    have fin : Hid (clampW x = 0) := by show _ = _; unfold clampW; rw [hn]; rfl
    clear h1 h2 k1 k2 e1 e2 hn
    go_enter Tryd.func27, Tryd.ntmps27
    go_wp2
    go_ret
    exact ⟨by rw [fin.out]; rfl, rfl⟩

theorem class_any (x : Nat) (hx : Hid (Wd x)) (w : World) :
    Calls Tryd.prog 52 #[.float .f64 x] w fun e w' => e = .returned (.int .i64 (if isNot x then 1 else 0)) ∧ w = w' := by
  cases hn : isNot x
  all_goals
    go_enter Tryd.func52, Tryd.ntmps52
    go_wp2_with (go_at_call 47; refine (isNaN_any _ hx _).mono ?_; rintro e w' ⟨rfl, rfl⟩)
    go_ret
    exact ⟨rfl, rfl⟩

def cmpI (a b : Int) : Int := if a < b then -1 else if b < a then 1 else 0
theorem compare_any (a b : Int) (w : World) :
    Calls Tryd.prog 53 #[.int .i64 a, .int .i64 b] w fun e w' => e = .returned (.int .i64 (cmpI a b)) ∧ w = w' := by
  unfold cmpI
  by_cases c1 : a < b
  · rw [if_pos c1]
    go_enter Tryd.func53, Tryd.ntmps53
    go_wp2
    go_ret
    exact ⟨rfl, rfl⟩
  · rw [if_neg c1]
    by_cases c2 : b < a
    · rw [if_pos c2]
      go_enter Tryd.func53, Tryd.ntmps53
      go_wp2
      go_ret
      exact ⟨rfl, rfl⟩
    · rw [if_neg c2]
      go_enter Tryd.func53, Tryd.ntmps53
      go_wp2
      go_ret
      exact ⟨rfl, rfl⟩

def signW (x : Nat) : Int := if x < 9223372036854775808 then 0 else -1
theorem sign_any (x : Nat) (hx : Hid (Wd x)) (w : World) :
    Calls Tryd.prog 54 #[.float .f64 x] w fun e w' => e = .returned (.int .i64 (signW x)) ∧ w = w' := by
  have hx' : Wd x := hx
  unfold Wd at hx'
  by_cases c : x < 9223372036854775808
  · have h : ¬ wrap64 (x : Int) < 0 := by unfold wrap64; omega
    have fin : Hid (signW x = 0) := if_pos c
    clear hx' c
    go_enter Tryd.func54, Tryd.ntmps54
    go_wp2
    go_ret
    exact ⟨by rw [fin.out]; rfl, rfl⟩
  · have h : wrap64 (x : Int) < 0 := by unfold wrap64; omega
    have fin : Hid (signW x = -1) := if_neg c
    clear hx' c
    go_enter Tryd.func54, Tryd.ntmps54
    go_wp2
    go_ret
    exact ⟨by rw [fin.out]; rfl, rfl⟩
end Go.Proofs.YtdgphhpeebieaaaDoor
