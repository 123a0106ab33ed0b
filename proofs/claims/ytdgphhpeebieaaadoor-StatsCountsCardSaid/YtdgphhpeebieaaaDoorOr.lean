/-
  WALKS: ChanceOrders, ChanceClamps.
-/
import Derived.Test.YtdgphhpeebieaaaDoorCa
import Derived.Test.YtdgphhpeebieaaaDoorRf
namespace Go.Proofs.YtdgphhpeebieaaaDoor
open Go.RowKit FP
set_option linter.unusedVariables false

theorem orderI_anti (a b : Nat) : orderI b a = -orderI a b := by
  unfold orderI
  by_cases h1 : T a < T b
  · rw [if_pos h1, if_neg (by omega), if_pos h1]; rfl
  · rw [if_neg h1]
    by_cases h2 : T b < T a
    · rw [if_pos h2, if_neg h1, if_pos h2]
    · rw [if_neg h2, if_neg h2, if_neg h1]; rfl
theorem orderI_le {a b : Nat} : orderI a b ≤ 0 ↔ T a ≤ T b := by
  unfold orderI
  split
  · omega
  · split <;> omega
theorem orderI_zero {a b : Nat} : orderI a b = 0 ↔ T a = T b := by
  unfold orderI
  split
  · omega
  · split <;> omega
theorem T_inj {a b : Nat} (ha : Wd a) (hb : Wd b) : T a = T b ↔ bitsB a b = true := by
  unfold Wd at ha hb
  unfold bitsB
  cases na : isNot a <;> cases nb : isNot b
  · rw [T_num na, T_num nb]
    simp only [Bool.false_and, Bool.false_or, decide_eq_true_eq]
    unfold L
    split <;> split <;> omega
  · rw [T_num na, show T b = 18446744073709551616 by unfold T; rw [nb]; rfl]
    simp only [Bool.false_and, Bool.false_or, decide_eq_true_eq]
    constructor
    · intro h; unfold L at h; split at h <;> omega
    · intro h; subst h; rw [na] at nb; cases nb
  · rw [T_num nb, show T a = 18446744073709551616 by unfold T; rw [na]; rfl]
    simp only [Bool.true_and, Bool.false_or, decide_eq_true_eq]
    constructor
    · intro h; unfold L at h; split at h <;> omega
    · intro h; subst h; rw [na] at nb; cases nb
  · rw [show T a = 18446744073709551616 by unfold T; rw [na]; rfl, show T b = 18446744073709551616 by unfold T; rw [nb]; rfl]
    simp
theorem orderI_three (a b : Nat) : orderI a b = -1 ∨ orderI a b = 0 ∨ orderI a b = 1 := by
  unfold orderI
  split
  · exact .inl rfl
  · split
    · exact .inr (.inr rfl)
    · exact .inr (.inl rfl)

theorem orders_core (x y z : Nat) (hx : Hid (Wd x)) (hy : Hid (Wd y)) (hz : Hid (Wd z)) (w : World) (hT : Hid (Tab16 w)) :
    Calls Tryd.prog 7 #[.int .u64 x, .int .u64 y, .int .u64 z] w fun e w' => e = .returned (.bool true) ∧ Below w.heap.size w w' := by
  have ha := orderI_anti x y
  have ht : orderI x y ≤ 0 → orderI y z ≤ 0 → orderI x z ≤ 0 := fun h1 h2 => orderI_le.2 (Int.le_trans (orderI_le.1 h1) (orderI_le.1 h2))
  have hb : orderI x y = 0 ↔ bitsB x y = true := orderI_zero.trans (T_inj hx.out hy.out)
  rcases orderI_three x y with hp | hp | hp
  · rcases orderI_three y z with hq | hq | hq
    · have Hp := Lib.hid hp
      have Hq := Lib.hid hq
      have Hr : Hid (orderI y x = 1) := by show _ = _; rw [ha, hp]; rfl
      have Hb : Hid (bitsB x y = false) := by
        show _ = _
        rw [← Bool.not_eq_true, ← hb, hp] <;> omega
      have Ho := ht (by omega) (by omega)
      clear ha ht hb hp hq
      go_enter Tryd.func7, Tryd.ntmps7
      go_wp2_with fail
      refine (cawake_any _ hT).mono ?_
      rintro e w1 ⟨rfl, hw1⟩
      have W1 := Lib.hid hw1
      clear hw1
      go_wp2_with fail
      refine (order_any x y hx hy _).mono ?_
      rintro e w2 ⟨rfl, rfl⟩
      rw [Hp.out]
      go_wp2_with fail
      refine (order_any y z hy hz _).mono ?_
      rintro e w2 ⟨rfl, rfl⟩
      rw [Hq.out]
      go_wp2_with fail
      refine (refOrder_any x y hx hy _).mono ?_
      rintro e w2 ⟨rfl, rfl⟩
      rw [Hp.out]
      go_wp2_with fail
      refine (order_any y x hy hx _).mono ?_
      rintro e w2 ⟨rfl, rfl⟩
      rw [Hr.out]
      go_wp2_with fail
      refine (order_any x x hx hx _).mono ?_
      rintro e w2 ⟨rfl, rfl⟩
      rw [orderI_self]
      go_wp2_with fail
      refine (bits_any x y hx hy _).mono ?_
      rintro e w2 ⟨rfl, rfl⟩
      rw [Hb.out]
      go_wp2_with fail
      refine (order_any x z hx hz _).mono ?_
      rintro e w2 ⟨rfl, rfl⟩
      go_wp2_with fail
      go_ret
      exact ⟨by rw [decide_eq_false (show ¬ 0 < orderI x z by omega)]; rfl, W1.out⟩
    · have Hp := Lib.hid hp
      have Hq := Lib.hid hq
      have Hr : Hid (orderI y x = 1) := by show _ = _; rw [ha, hp]; rfl
      have Hb : Hid (bitsB x y = false) := by
        show _ = _
        rw [← Bool.not_eq_true, ← hb, hp] <;> omega
      have Ho := ht (by omega) (by omega)
      clear ha ht hb hp hq
      go_enter Tryd.func7, Tryd.ntmps7
      go_wp2_with fail
      refine (cawake_any _ hT).mono ?_
      rintro e w1 ⟨rfl, hw1⟩
      have W1 := Lib.hid hw1
      clear hw1
      go_wp2_with fail
      refine (order_any x y hx hy _).mono ?_
      rintro e w2 ⟨rfl, rfl⟩
      rw [Hp.out]
      go_wp2_with fail
      refine (order_any y z hy hz _).mono ?_
      rintro e w2 ⟨rfl, rfl⟩
      rw [Hq.out]
      go_wp2_with fail
      refine (refOrder_any x y hx hy _).mono ?_
      rintro e w2 ⟨rfl, rfl⟩
      rw [Hp.out]
      go_wp2_with fail
      refine (order_any y x hy hx _).mono ?_
      rintro e w2 ⟨rfl, rfl⟩
      rw [Hr.out]
      go_wp2_with fail
      refine (order_any x x hx hx _).mono ?_
      rintro e w2 ⟨rfl, rfl⟩
      rw [orderI_self]
      go_wp2_with fail
      refine (bits_any x y hx hy _).mono ?_
      rintro e w2 ⟨rfl, rfl⟩
      rw [Hb.out]
      go_wp2_with fail
      refine (order_any x z hx hz _).mono ?_
      rintro e w2 ⟨rfl, rfl⟩
      go_wp2_with fail
      go_ret
      exact ⟨by rw [decide_eq_false (show ¬ 0 < orderI x z by omega)]; rfl, W1.out⟩
    · have Hp := Lib.hid hp
      have Hq := Lib.hid hq
      have Hr : Hid (orderI y x = 1) := by show _ = _; rw [ha, hp]; rfl
      have Hb : Hid (bitsB x y = false) := by
        show _ = _
        rw [← Bool.not_eq_true, ← hb, hp] <;> omega
      clear ha ht hb hp hq
      go_enter Tryd.func7, Tryd.ntmps7
      go_wp2_with fail
      refine (cawake_any _ hT).mono ?_
      rintro e w1 ⟨rfl, hw1⟩
      have W1 := Lib.hid hw1
      clear hw1
      go_wp2_with fail
      refine (order_any x y hx hy _).mono ?_
      rintro e w2 ⟨rfl, rfl⟩
      rw [Hp.out]
      go_wp2_with fail
      refine (order_any y z hy hz _).mono ?_
      rintro e w2 ⟨rfl, rfl⟩
      rw [Hq.out]
      go_wp2_with fail
      refine (refOrder_any x y hx hy _).mono ?_
      rintro e w2 ⟨rfl, rfl⟩
      rw [Hp.out]
      go_wp2_with fail
      refine (order_any y x hy hx _).mono ?_
      rintro e w2 ⟨rfl, rfl⟩
      rw [Hr.out]
      go_wp2_with fail
      refine (order_any x x hx hx _).mono ?_
      rintro e w2 ⟨rfl, rfl⟩
      rw [orderI_self]
      go_wp2_with fail
      refine (bits_any x y hx hy _).mono ?_
      rintro e w2 ⟨rfl, rfl⟩
      rw [Hb.out]
      go_wp2_with fail
      go_ret
      exact ⟨rfl, W1.out⟩
  · rcases orderI_three y z with hq | hq | hq
    · have Hp := Lib.hid hp
      have Hq := Lib.hid hq
      have Hr : Hid (orderI y x = 0) := by show _ = _; rw [ha, hp]; rfl
      have Hb : Hid (bitsB x y = true) := by
        show _ = _
        exact hb.1 hp
      have Ho := ht (by omega) (by omega)
      clear ha ht hb hp hq
      go_enter Tryd.func7, Tryd.ntmps7
      go_wp2_with fail
      refine (cawake_any _ hT).mono ?_
      rintro e w1 ⟨rfl, hw1⟩
      have W1 := Lib.hid hw1
      clear hw1
      go_wp2_with fail
      refine (order_any x y hx hy _).mono ?_
      rintro e w2 ⟨rfl, rfl⟩
      rw [Hp.out]
      go_wp2_with fail
      refine (order_any y z hy hz _).mono ?_
      rintro e w2 ⟨rfl, rfl⟩
      rw [Hq.out]
      go_wp2_with fail
      refine (refOrder_any x y hx hy _).mono ?_
      rintro e w2 ⟨rfl, rfl⟩
      rw [Hp.out]
      go_wp2_with fail
      refine (order_any y x hy hx _).mono ?_
      rintro e w2 ⟨rfl, rfl⟩
      rw [Hr.out]
      go_wp2_with fail
      refine (order_any x x hx hx _).mono ?_
      rintro e w2 ⟨rfl, rfl⟩
      rw [orderI_self]
      go_wp2_with fail
      refine (bits_any x y hx hy _).mono ?_
      rintro e w2 ⟨rfl, rfl⟩
      rw [Hb.out]
      go_wp2_with fail
      refine (order_any x z hx hz _).mono ?_
      rintro e w2 ⟨rfl, rfl⟩
      go_wp2_with fail
      go_ret
      exact ⟨by rw [decide_eq_false (show ¬ 0 < orderI x z by omega)]; rfl, W1.out⟩
    · have Hp := Lib.hid hp
      have Hq := Lib.hid hq
      have Hr : Hid (orderI y x = 0) := by show _ = _; rw [ha, hp]; rfl
      have Hb : Hid (bitsB x y = true) := by
        show _ = _
        exact hb.1 hp
      have Ho := ht (by omega) (by omega)
      clear ha ht hb hp hq
      go_enter Tryd.func7, Tryd.ntmps7
      go_wp2_with fail
      refine (cawake_any _ hT).mono ?_
      rintro e w1 ⟨rfl, hw1⟩
      have W1 := Lib.hid hw1
      clear hw1
      go_wp2_with fail
      refine (order_any x y hx hy _).mono ?_
      rintro e w2 ⟨rfl, rfl⟩
      rw [Hp.out]
      go_wp2_with fail
      refine (order_any y z hy hz _).mono ?_
      rintro e w2 ⟨rfl, rfl⟩
      rw [Hq.out]
      go_wp2_with fail
      refine (refOrder_any x y hx hy _).mono ?_
      rintro e w2 ⟨rfl, rfl⟩
      rw [Hp.out]
      go_wp2_with fail
      refine (order_any y x hy hx _).mono ?_
      rintro e w2 ⟨rfl, rfl⟩
      rw [Hr.out]
      go_wp2_with fail
      refine (order_any x x hx hx _).mono ?_
      rintro e w2 ⟨rfl, rfl⟩
      rw [orderI_self]
      go_wp2_with fail
      refine (bits_any x y hx hy _).mono ?_
      rintro e w2 ⟨rfl, rfl⟩
      rw [Hb.out]
      go_wp2_with fail
      refine (order_any x z hx hz _).mono ?_
      rintro e w2 ⟨rfl, rfl⟩
      go_wp2_with fail
      go_ret
      exact ⟨by rw [decide_eq_false (show ¬ 0 < orderI x z by omega)]; rfl, W1.out⟩
    · have Hp := Lib.hid hp
      have Hq := Lib.hid hq
      have Hr : Hid (orderI y x = 0) := by show _ = _; rw [ha, hp]; rfl
      have Hb : Hid (bitsB x y = true) := by
        show _ = _
        exact hb.1 hp
      clear ha ht hb hp hq
      go_enter Tryd.func7, Tryd.ntmps7
      go_wp2_with fail
      refine (cawake_any _ hT).mono ?_
      rintro e w1 ⟨rfl, hw1⟩
      have W1 := Lib.hid hw1
      clear hw1
      go_wp2_with fail
      refine (order_any x y hx hy _).mono ?_
      rintro e w2 ⟨rfl, rfl⟩
      rw [Hp.out]
      go_wp2_with fail
      refine (order_any y z hy hz _).mono ?_
      rintro e w2 ⟨rfl, rfl⟩
      rw [Hq.out]
      go_wp2_with fail
      refine (refOrder_any x y hx hy _).mono ?_
      rintro e w2 ⟨rfl, rfl⟩
      rw [Hp.out]
      go_wp2_with fail
      refine (order_any y x hy hx _).mono ?_
      rintro e w2 ⟨rfl, rfl⟩
      rw [Hr.out]
      go_wp2_with fail
      refine (order_any x x hx hx _).mono ?_
      rintro e w2 ⟨rfl, rfl⟩
      rw [orderI_self]
      go_wp2_with fail
      refine (bits_any x y hx hy _).mono ?_
      rintro e w2 ⟨rfl, rfl⟩
      rw [Hb.out]
      go_wp2_with fail
      go_ret
      exact ⟨rfl, W1.out⟩
  · rcases orderI_three y z with hq | hq | hq
    · have Hp := Lib.hid hp
      have Hq := Lib.hid hq
      have Hr : Hid (orderI y x = -1) := by show _ = _; rw [ha, hp]
      have Hb : Hid (bitsB x y = false) := by
        show _ = _
        rw [← Bool.not_eq_true, ← hb, hp] <;> omega
      clear ha ht hb hp hq
      go_enter Tryd.func7, Tryd.ntmps7
      go_wp2_with fail
      refine (cawake_any _ hT).mono ?_
      rintro e w1 ⟨rfl, hw1⟩
      have W1 := Lib.hid hw1
      clear hw1
      go_wp2_with fail
      refine (order_any x y hx hy _).mono ?_
      rintro e w2 ⟨rfl, rfl⟩
      rw [Hp.out]
      go_wp2_with fail
      refine (order_any y z hy hz _).mono ?_
      rintro e w2 ⟨rfl, rfl⟩
      rw [Hq.out]
      go_wp2_with fail
      refine (refOrder_any x y hx hy _).mono ?_
      rintro e w2 ⟨rfl, rfl⟩
      rw [Hp.out]
      go_wp2_with fail
      refine (order_any y x hy hx _).mono ?_
      rintro e w2 ⟨rfl, rfl⟩
      rw [Hr.out]
      go_wp2_with fail
      refine (order_any x x hx hx _).mono ?_
      rintro e w2 ⟨rfl, rfl⟩
      rw [orderI_self]
      go_wp2_with fail
      refine (bits_any x y hx hy _).mono ?_
      rintro e w2 ⟨rfl, rfl⟩
      rw [Hb.out]
      go_wp2_with fail
      go_ret
      exact ⟨rfl, W1.out⟩
    · have Hp := Lib.hid hp
      have Hq := Lib.hid hq
      have Hr : Hid (orderI y x = -1) := by show _ = _; rw [ha, hp]
      have Hb : Hid (bitsB x y = false) := by
        show _ = _
        rw [← Bool.not_eq_true, ← hb, hp] <;> omega
      clear ha ht hb hp hq
      go_enter Tryd.func7, Tryd.ntmps7
      go_wp2_with fail
      refine (cawake_any _ hT).mono ?_
      rintro e w1 ⟨rfl, hw1⟩
      have W1 := Lib.hid hw1
      clear hw1
      go_wp2_with fail
      refine (order_any x y hx hy _).mono ?_
      rintro e w2 ⟨rfl, rfl⟩
      rw [Hp.out]
      go_wp2_with fail
      refine (order_any y z hy hz _).mono ?_
      rintro e w2 ⟨rfl, rfl⟩
      rw [Hq.out]
      go_wp2_with fail
      refine (refOrder_any x y hx hy _).mono ?_
      rintro e w2 ⟨rfl, rfl⟩
      rw [Hp.out]
      go_wp2_with fail
      refine (order_any y x hy hx _).mono ?_
      rintro e w2 ⟨rfl, rfl⟩
      rw [Hr.out]
      go_wp2_with fail
      refine (order_any x x hx hx _).mono ?_
      rintro e w2 ⟨rfl, rfl⟩
      rw [orderI_self]
      go_wp2_with fail
      refine (bits_any x y hx hy _).mono ?_
      rintro e w2 ⟨rfl, rfl⟩
      rw [Hb.out]
      go_wp2_with fail
      go_ret
      exact ⟨rfl, W1.out⟩
    · have Hp := Lib.hid hp
      have Hq := Lib.hid hq
      have Hr : Hid (orderI y x = -1) := by show _ = _; rw [ha, hp]
      have Hb : Hid (bitsB x y = false) := by
        show _ = _
        rw [← Bool.not_eq_true, ← hb, hp] <;> omega
      clear ha ht hb hp hq
      go_enter Tryd.func7, Tryd.ntmps7
      go_wp2_with fail
      refine (cawake_any _ hT).mono ?_
      rintro e w1 ⟨rfl, hw1⟩
      have W1 := Lib.hid hw1
      clear hw1
      go_wp2_with fail
      refine (order_any x y hx hy _).mono ?_
      rintro e w2 ⟨rfl, rfl⟩
      rw [Hp.out]
      go_wp2_with fail
      refine (order_any y z hy hz _).mono ?_
      rintro e w2 ⟨rfl, rfl⟩
      rw [Hq.out]
      go_wp2_with fail
      refine (refOrder_any x y hx hy _).mono ?_
      rintro e w2 ⟨rfl, rfl⟩
      rw [Hp.out]
      go_wp2_with fail
      refine (order_any y x hy hx _).mono ?_
      rintro e w2 ⟨rfl, rfl⟩
      rw [Hr.out]
      go_wp2_with fail
      refine (order_any x x hx hx _).mono ?_
      rintro e w2 ⟨rfl, rfl⟩
      rw [orderI_self]
      go_wp2_with fail
      refine (bits_any x y hx hy _).mono ?_
      rintro e w2 ⟨rfl, rfl⟩
      rw [Hb.out]
      go_wp2_with fail
      go_ret
      exact ⟨rfl, W1.out⟩

theorem orders_walk (a0 a1 a2 : Int) (w0 : (Lit.int .u64 a0).wf = true) (w1 : (Lit.int .u64 a1).wf = true) (w2 : (Lit.int .u64 a2).wf = true) (w : World) (hT : Tab16 w) :
    Calls Tryd.prog 7 #[.int .u64 a0, .int .u64 a1, .int .u64 a2] w fun e w' => e = .returned (.bool true) ∧ Below w.heap.size w w' := by
  have h0 : 0 ≤ a0 ∧ a0 ≤ 18446744073709551615 := bounds_u64 w0
  have h1 : 0 ≤ a1 ∧ a1 ≤ 18446744073709551615 := bounds_u64 w1
  have h2 : 0 ≤ a2 ∧ a2 ≤ 18446744073709551615 := bounds_u64 w2
  obtain ⟨n, rfl⟩ := Int.eq_ofNat_of_zero_le h0.1
  obtain ⟨m, rfl⟩ := Int.eq_ofNat_of_zero_le h1.1
  obtain ⟨k, rfl⟩ := Int.eq_ofNat_of_zero_le h2.1
  exact orders_core n m k (by show Wd _; unfold Wd; omega) (by show Wd _; unfold Wd; omega) (by show Wd _; unfold Wd; omega) w hT
end Go.Proofs.YtdgphhpeebieaaaDoor
