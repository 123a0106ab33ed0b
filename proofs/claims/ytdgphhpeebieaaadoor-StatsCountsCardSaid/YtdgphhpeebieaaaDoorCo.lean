/-
  WALKS: chance.Order, chance.Blend, chance.Ratio.
-/
import Derived.Test.YtdgphhpeebieaaaDoorCw
namespace Go.Proofs.YtdgphhpeebieaaaDoor
open Go.RowKit FP
set_option linter.unusedVariables false

theorem class_not (x : Nat) (hx : Hid (Wd x)) (h : isNot x = true) (w : World) :
    Calls Tryd.prog 52 #[.float .f64 x] w fun e w' => e = .returned (.int .i64 1) ∧ w = w' := by
  have := class_any x hx w; rw [h] at this; exact this
theorem class_num (x : Nat) (hx : Hid (Wd x)) (h : isNot x = false) (w : World) :
    Calls Tryd.prog 52 #[.float .f64 x] w fun e w' => e = .returned (.int .i64 0) ∧ w = w' := by
  have := class_any x hx w; rw [h] at this; exact this

theorem order_any (a b : Nat) (ha : Hid (Wd a)) (hb : Hid (Wd b)) (w : World) :
    Calls Tryd.prog 30 #[.float .f64 a, .float .f64 b] w fun e w' => e = .returned (.int .i64 (orderI a b)) ∧ w = w' := by
  have ha' : Wd a := ha
  have hb' : Wd b := hb
  have o1 := ord_lt ha' hb'
  have o2 := ord_gt ha' hb'
  have o3 := ord_eq ha' (show Wd 0 by unfold Wd; omega)
  rw [show isNot 0 = false by decide, show K 0 = 0 from rfl] at o3
  rw [← f64_fmt] at o1 o2 o3
  unfold Wd at ha' hb'
  cases na : isNot a
  · cases nb : isNot b
    · rw [na, nb] at o1 o2
      rw [na] at o3
      have Na := Lib.hid na
      have Nb := Lib.hid nb
      have ta : Hid (T a = if a < 9223372036854775808 then (a : Int) else -((a : Int) - 9223372036854775808) - 1) := by show _ = _; unfold T; rw [na]; rfl
      have tb : Hid (T b = if b < 9223372036854775808 then (b : Int) else -((b : Int) - 9223372036854775808) - 1) := by show _ = _; unfold T; rw [nb]; rfl
      by_cases c1 : K a < K b
      · have g1 : (FloatKind.f64.format.order a b == some Ordering.lt) = true := by rw [o1]; simpa using c1
        have fin : Hid (orderI a b = -1) := by
          show _ = _
          unfold orderI; rw [ta.out, tb.out, if_pos]
          unfold K at c1
          by_cases x1 : a < 9223372036854775808 <;> by_cases x2 : b < 9223372036854775808 <;> simp only [x1, x2, if_true, if_false] at c1 ⊢ <;> omega
        clear o1 o2 o3 c1 ta tb na nb ha' hb'
        go_enter Tryd.func30, Tryd.ntmps30
        go_wp2_with fail
        refine (class_num _ ha Na.out _).mono ?_; rintro e w' ⟨rfl, rfl⟩
        go_wp2_with fail
        refine (class_num _ hb Nb.out _).mono ?_; rintro e w' ⟨rfl, rfl⟩
        go_wp2_with fail
        go_ret
        exact ⟨by rw [fin.out]; rfl, rfl⟩
      · have g1 : (FloatKind.f64.format.order a b == some Ordering.lt) = false := by rw [o1]; simpa using c1
        by_cases c2 : K b < K a
        · have g2 : (FloatKind.f64.format.order a b == some Ordering.gt) = true := by rw [o2]; simpa using c2
          have fin : Hid (orderI a b = 1) := by
            show _ = _
            unfold orderI; rw [ta.out, tb.out, if_neg, if_pos]
            · unfold K at c2; by_cases x1 : a < 9223372036854775808 <;> by_cases x2 : b < 9223372036854775808 <;> simp only [x1, x2, if_true, if_false] at c2 ⊢ <;> omega
            · unfold K at c2; by_cases x1 : a < 9223372036854775808 <;> by_cases x2 : b < 9223372036854775808 <;> simp only [x1, x2, if_true, if_false] at c2 ⊢ <;> omega
          clear o1 o2 o3 c1 c2 ta tb na nb ha' hb'
          go_enter Tryd.func30, Tryd.ntmps30
          go_wp2_with fail
          refine (class_num _ ha Na.out _).mono ?_; rintro e w' ⟨rfl, rfl⟩
          go_wp2_with fail
          refine (class_num _ hb Nb.out _).mono ?_; rintro e w' ⟨rfl, rfl⟩
          go_wp2_with fail
          go_ret
          exact ⟨by rw [fin.out]; rfl, rfl⟩
        · have g2 : (FloatKind.f64.format.order a b == some Ordering.gt) = false := by rw [o2]; simpa using c2
          have hab : K a = K b := by omega
          by_cases c3 : K a = 0
          · have g3 : (FloatKind.f64.format.order a 0 == some Ordering.eq) = true := by rw [o3]; simpa using c3
            have fin : Hid (orderI a b = cmpI (signW a) (signW b)) := by
              show _ = _
              unfold orderI cmpI signW; rw [ta.out, tb.out]
              unfold K at c3 hab
              by_cases x1 : a < 9223372036854775808 <;> by_cases x2 : b < 9223372036854775808 <;> simp only [x1, x2, if_true, if_false] at c3 hab ⊢
              · rw [if_neg (by omega), if_neg (by omega)]; simp
              · rw [if_neg (by omega), if_pos (by omega)]; simp
              · rw [if_pos (by omega)]; simp
              · rw [if_neg (by omega), if_neg (by omega)]; simp
            clear o1 o2 o3 c1 c2 c3 hab ta tb na nb ha' hb'
            go_enter Tryd.func30, Tryd.ntmps30
            go_wp2_with fail
            refine (class_num _ ha Na.out _).mono ?_; rintro e w' ⟨rfl, rfl⟩
            go_wp2_with fail
            refine (class_num _ hb Nb.out _).mono ?_; rintro e w' ⟨rfl, rfl⟩
            go_wp2_with fail
            refine (sign_any _ ha _).mono ?_; rintro e w' ⟨rfl, rfl⟩
            go_wp2_with fail
            refine (sign_any _ hb _).mono ?_; rintro e w' ⟨rfl, rfl⟩
            go_wp2_with fail
            refine (compare_any _ _ _).mono ?_; rintro e w' ⟨rfl, rfl⟩
            go_wp2_with fail
            go_ret
            exact ⟨by rw [fin.out]; rfl, rfl⟩
          · have g3 : (FloatKind.f64.format.order a 0 == some Ordering.eq) = false := by rw [o3]; simpa using c3
            have fin : Hid (orderI a b = 0) := by
              show _ = _
              unfold orderI; rw [ta.out, tb.out]
              unfold K at c3 hab
              by_cases x1 : a < 9223372036854775808 <;> by_cases x2 : b < 9223372036854775808 <;> simp only [x1, x2, if_true, if_false] at c3 hab ⊢ <;> rw [if_neg (by omega), if_neg (by omega)]
            clear o1 o2 o3 c1 c2 c3 hab ta tb na nb ha' hb'
            go_enter Tryd.func30, Tryd.ntmps30
            go_wp2_with fail
            refine (class_num _ ha Na.out _).mono ?_; rintro e w' ⟨rfl, rfl⟩
            go_wp2_with fail
            refine (class_num _ hb Nb.out _).mono ?_; rintro e w' ⟨rfl, rfl⟩
            go_wp2_with fail
            go_ret
            exact ⟨by rw [fin.out]; rfl, rfl⟩
    · have fin : Hid (orderI a b = -1) := by
        show _ = _
        unfold orderI T; rw [na, nb, if_pos]
        simp only [if_true, Bool.false_eq_true, if_false]; split <;> omega
      have Na := Lib.hid na
      have Nb := Lib.hid nb
      clear o1 o2 o3 na nb ha' hb'
      go_enter Tryd.func30, Tryd.ntmps30
      go_wp2_with fail
      refine (class_num _ ha Na.out _).mono ?_; rintro e w' ⟨rfl, rfl⟩
      go_wp2_with fail
      refine (class_not _ hb Nb.out _).mono ?_; rintro e w' ⟨rfl, rfl⟩
      go_wp2_with fail
      refine (class_num _ ha Na.out _).mono ?_; rintro e w' ⟨rfl, rfl⟩
      go_wp2_with fail
      refine (class_not _ hb Nb.out _).mono ?_; rintro e w' ⟨rfl, rfl⟩
      go_wp2_with fail
      refine (compare_any _ _ _).mono ?_; rintro e w' ⟨rfl, rfl⟩
      go_wp2_with fail
      go_ret
      exact ⟨by rw [fin.out]; rfl, rfl⟩
  · cases nb : isNot b
    · have fin : Hid (orderI a b = 1) := by
        show _ = _
        unfold orderI T; rw [na, nb, if_neg, if_pos]
        · simp only [if_true, Bool.false_eq_true, if_false]; split <;> omega
        · simp only [if_true, Bool.false_eq_true, if_false]; split <;> omega
      have Na := Lib.hid na
      have Nb := Lib.hid nb
      clear o1 o2 o3 na nb ha' hb'
      go_enter Tryd.func30, Tryd.ntmps30
      go_wp2_with fail
      refine (class_not _ ha Na.out _).mono ?_; rintro e w' ⟨rfl, rfl⟩
      go_wp2_with fail
      refine (class_num _ hb Nb.out _).mono ?_; rintro e w' ⟨rfl, rfl⟩
      go_wp2_with fail
      refine (class_not _ ha Na.out _).mono ?_; rintro e w' ⟨rfl, rfl⟩
      go_wp2_with fail
      refine (class_num _ hb Nb.out _).mono ?_; rintro e w' ⟨rfl, rfl⟩
      go_wp2_with fail
      refine (compare_any _ _ _).mono ?_; rintro e w' ⟨rfl, rfl⟩
      go_wp2_with fail
      go_ret
      exact ⟨by rw [fin.out]; rfl, rfl⟩
    · have fin : Hid (orderI a b = 0) := by
        show _ = _
        unfold orderI T; rw [na, nb]; rfl
      have Na := Lib.hid na
      have Nb := Lib.hid nb
      clear o1 o2 o3 na nb ha' hb'
      go_enter Tryd.func30, Tryd.ntmps30
      go_wp2_with fail
      refine (class_not _ ha Na.out _).mono ?_; rintro e w' ⟨rfl, rfl⟩
      go_wp2_with fail
      refine (class_not _ hb Nb.out _).mono ?_; rintro e w' ⟨rfl, rfl⟩
      go_wp2_with fail
      refine (class_not _ ha Na.out _).mono ?_; rintro e w' ⟨rfl, rfl⟩
      go_wp2_with fail
      refine (class_not _ hb Nb.out _).mono ?_; rintro e w' ⟨rfl, rfl⟩
      go_wp2_with fail
      refine (compare_any _ _ _).mono ?_; rintro e w' ⟨rfl, rfl⟩
      go_wp2_with fail
      go_ret
      exact ⟨by rw [fin.out]; rfl, rfl⟩

theorem blend_any (a b c : Nat) (ha : Hid (Wd a)) (hb : Hid (Wd b)) (hc : Hid (Wd c)) (w : World) :
    Calls Tryd.prog 29 #[.float .f64 a, .float .f64 b, .float .f64 c] w fun e w' => e = .returned (.float .f64 (blendW a b c)) ∧ w = w' := by
  obtain ⟨d, p, t, h1, h2, h3, h4, h5, h6⟩ := blend_steps a b c
  have wt : Wd t := Ieee.double.add_lt h3
  have r1 := fun w => run_float_arith (P := Tryd.prog) w .sub 24 .f64 _ _ d h1
  have r2 := fun w => run_float_arith (P := Tryd.prog) w .mul 24 .f64 _ _ p h2
  have r3 := fun w => run_float_arith (P := Tryd.prog) w .add 24 .f64 _ _ t h3
  have fin : Hid (clampW t = blendW a b c) := h6
  have ht : Hid (Wd t) := wt
  clear h1 h2 h3 h4 h5 h6 wt
  go_enter Tryd.func29, Tryd.ntmps29
  go_wp2_with fail
  refine (clamp_any _ ha _).mono ?_; rintro e w' ⟨rfl, rfl⟩
  go_wp2_with fail
  refine (clamp_any _ hb _).mono ?_; rintro e w' ⟨rfl, rfl⟩
  go_wp2_with fail
  refine (clamp_any _ hc _).mono ?_; rintro e w' ⟨rfl, rfl⟩
  go_wp2_with fail
  refine (clamp_any _ ht _).mono ?_; rintro e w' ⟨rfl, rfl⟩
  go_wp2_with fail
  go_ret
  exact ⟨by rw [← fin.out]; rfl, rfl⟩

theorem intW_floatOfInt (n : Nat) : floatOfInt .f64 (n : Int) = intW n := by
  unfold floatOfInt FloatKind.nearest FloatKind.encode intW
  rw [show decide ((n : Int) < 0) = false from decide_eq_false (by omega), Int.natAbs_natCast]
  rfl
theorem run_quo_none (P : Program) (t : TypeId) (x y : Nat) (h : Ieee.double.div x y = none) (w : World) :
    ∃ r, Wd r ∧ isNot r = true ∧ (binOp .quo t (.float .f64 x) (.float .f64 y)).run P w = .ok (.float .f64 r) w.drew := by
  refine ⟨(Question.nanBits .f64 x y).cut (w.tape w.drawn (Question.nanBits .f64 x y)), ?_, ?_, ?_⟩
  · unfold Wd Question.cut; simp only; omega
  · unfold isNot Question.cut
    generalize w.tape w.drawn (Question.nanBits .f64 x y) = t
    refine decide_eq_true ?_
    simp only
    have h1 : t % 2 = 0 ∨ t % 2 = 1 := by omega
    have h2 : t / 2 % (2 ^ 52 - 1) < 2 ^ 52 - 1 := Nat.mod_lt _ (by omega)
    rcases h1 with h1 | h1 <;> rw [h1] <;> omega
  · have h' : FloatKind.f64.format.div x y = none := h
    simp [binOp, Op.floatArith, h', Question.forced]

theorem ratio_any (a b : Nat) (ha : a ≤ 18446744073709551615) (hb : b ≤ 18446744073709551615) (w : World) :
    Calls Tryd.prog 23 #[.int .u64 a, .int .u64 b] w fun e w' => ∃ r, IsRatio a b r ∧ e = .returned (.float .f64 r) ∧ ∃ n, w' = w.drewN n := by
  have f1 := intW_floatOfInt a
  have f2 := intW_floatOfInt b
  by_cases h : a = 0 ∧ b = 0
  · obtain ⟨rfl, rfl⟩ := h
    obtain ⟨r, h1, h2, h3⟩ := run_quo_none Tryd.prog 24 _ _ div_none w
    have fin : Hid (IsRatio 0 0 r) := ⟨h1, fun _ _ => h2, fun h => (h rfl rfl).elim⟩
    clear h1 h2 ha hb
    have f0 : floatOfInt .f64 0 = intW 0 := f1
    go_enter Tryd.func23, Tryd.ntmps23
    go_wp2
    go_ret
    exact ⟨r, fin.out, rfl, 1, rfl⟩
  · have hd := div_some (a := a) (b := b) (by omega) (by omega) (fun h1 h2 => h ⟨h1, h2⟩)
    have r1 := fun w => run_float_arith (P := Tryd.prog) w .quo 24 .f64 _ _ (ratioW a b) hd
    have wt : Wd (ratioW a b) := Ieee.double.div_lt hd
    have fin : Hid (IsRatio a b (ratioW a b)) := ⟨wt, fun h1 h2 => absurd ⟨h1, h2⟩ h, fun _ => rfl⟩
    clear hd wt h ha hb
    go_enter Tryd.func23, Tryd.ntmps23
    go_wp2
    go_ret
    exact ⟨_, fin.out, rfl, 0, rfl⟩
end Go.Proofs.YtdgphhpeebieaaaDoor
