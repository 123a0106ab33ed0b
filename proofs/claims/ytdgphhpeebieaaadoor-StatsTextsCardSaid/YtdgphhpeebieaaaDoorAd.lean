/-
  WALK: chance.Admit.
-/
import Derived.Test.YtdgphhpeebieaaaDoorLd
namespace Go.Proofs.YtdgphhpeebieaaaDoor
open Go.RowKit FP
set_option linter.unusedVariables false

theorem K_wd_bd {p : Nat} (hp : Wd p) (h : 0 < K p) : p < 9223372036854775808 ∧ K p = p := by
  unfold Wd at hp; unfold K at *
  split at h
  · rename_i c; exact ⟨c, if_pos c⟩
  · omega

theorem admit_any (p draw d : Nat) (hp : Hid (Wd p)) (hd : Hid (d = draw / 2048)) (hw : Hid (Wd draw)) (w : World) :
    Calls Tryd.prog 15 #[.float .f64 p, .int .u64 draw] w fun e w' => e = .returned (.bool (admitW p d)) ∧ w = w' := by
  have hb : d ≤ 9007199254740991 := by have h1 := hd.out; have h2 := hw.out; unfold Wd at h2; omega
  have o1 := ord_lt hp.out (show Wd 0 by unfold Wd; omega)
  have o2 := ord_eq hp.out (show Wd 0 by unfold Wd; omega)
  have o3 := ord_gt hp.out one_wd
  have o4 := ord_eq hp.out one_wd
  have o5 := ord_lt (le_one_wd (ldW_le (k := d) (by omega))) hp.out
  rw [show isNot 0 = false by decide, show K 0 = 0 from rfl] at o1 o2
  rw [show isNot one = false by decide, K_le_one (Nat.le_refl _)] at o3 o4
  rw [isNot_le_one (ldW_le (k := d) (by omega)), K_le_one (ldW_le (k := d) (by omega))] at o5
  rw [← f64_fmt] at o1 o2 o3 o4 o5
  cases hn : isNot p
  · rw [hn] at o1 o2 o3 o4 o5
    have Hn := Lib.hid hn
    by_cases c0 : 0 < K p
    · by_cases c1 : (one : Int) ≤ K p
      · have g1 : ((FloatKind.f64.format.order p 0 == some Ordering.lt) || (FloatKind.f64.format.order p 0 == some Ordering.eq)) = false := by
          rw [o1, o2, decide_eq_false (by omega), decide_eq_false (by omega)]; rfl
        have g2 : ((FloatKind.f64.format.order p 4607182418800017408 == some Ordering.gt) || (FloatKind.f64.format.order p 4607182418800017408 == some Ordering.eq)) = true := by
          rw [show (4607182418800017408 : Nat) = one from rfl, o3, o4]
          by_cases h : (one : Int) < K p
          · simp [h]
          · rw [show K p = one by omega]; simp
        have fin : Hid (admitW p d = true) := by show _ = _; unfold admitW; rw [hn]; simp [c0, c1]
        clear o1 o2 o3 o4 o5 hn c0 c1 hb
        go_enter Tryd.func15, Tryd.ntmps15
        go_wp2_with fail
        refine (isNaN_any p hp _).mono ?_
        rintro e w' ⟨rfl, rfl⟩
        rw [Hn.out]
        go_wp2_with fail
        go_ret
        exact ⟨by rw [fin.out]; rfl, rfl⟩
      · have g1 : ((FloatKind.f64.format.order p 0 == some Ordering.lt) || (FloatKind.f64.format.order p 0 == some Ordering.eq)) = false := by
          rw [o1, o2, decide_eq_false (by omega), decide_eq_false (by omega)]; rfl
        have g2 : ((FloatKind.f64.format.order p 4607182418800017408 == some Ordering.gt) || (FloatKind.f64.format.order p 4607182418800017408 == some Ordering.eq)) = false := by
          rw [show (4607182418800017408 : Nat) = one from rfl, o3, o4, decide_eq_false (by omega), decide_eq_false (by omega)]; rfl
        have g5 : ∃ b, b = decide ((ldW d : Int) < K p) := ⟨_, rfl⟩
        obtain ⟨b, hb'⟩ := g5
        have fin : Hid (admitW p d = b) := by show _ = _; unfold admitW; rw [hn, hb']; simp [c0, c1]
        have g3 : (FloatKind.f64.format.order (ldW d) p == some Ordering.lt) = b := by rw [o5, hb']; rfl
        have e1 : (draw : Int) / 2048 = (d : Int) := by have := hd.out; omega
        have e2 := intW_floatOfInt d
        clear o1 o2 o3 o4 o5 hn c0 c1 hb'
        by_cases hz : d = 0
        · subst hz
          have e3 : floatOfInt .f64 0 = 0 := e2.trans intW_zero
          have g4 : (FloatKind.f64.format.order 0 p == some Ordering.lt) = b := g3
          clear e2 g3
          go_enter Tryd.func15, Tryd.ntmps15
          go_wp2_with fail
          refine (isNaN_any p hp _).mono ?_
          rintro e w' ⟨rfl, rfl⟩
          rw [Hn.out]
          go_wp2_with fail
          refine (Ldexp_zero _).mono ?_
          rintro e w' ⟨rfl, rfl⟩
          go_wp2_with fail
          go_ret
          exact ⟨by rw [fin.out]; rfl, rfl⟩
        · have hm : Hid (Mid (intW d)) := by
            obtain ⟨_, h1, h2⟩ := intW_exact (k := d) (by omega) (by omega)
            exact ⟨h1, h2⟩
          have g4 : ldW d = intW d - 238690780250636288 := if_neg hz
          rw [g4] at g3
          clear g4 hz hb
          go_enter Tryd.func15, Tryd.ntmps15
          go_wp2_with fail
          refine (isNaN_any p hp _).mono ?_
          rintro e w' ⟨rfl, rfl⟩
          rw [Hn.out]
          go_wp2_with fail
          refine (Ldexp_mid _ hm _).mono ?_
          rintro e w' ⟨rfl, rfl⟩
          go_wp2_with fail
          go_ret
          exact ⟨by rw [fin.out]; rfl, rfl⟩
    · have g1 : ((FloatKind.f64.format.order p 0 == some Ordering.lt) || (FloatKind.f64.format.order p 0 == some Ordering.eq)) = true := by
        rw [o1, o2]
        by_cases h : K p < 0
        · simp [h]
        · rw [show K p = 0 by omega]; simp
      have fin : Hid (admitW p d = false) := by show _ = _; unfold admitW; rw [hn]; simp [c0]
      clear o1 o2 o3 o4 o5 hn c0 hb
      go_enter Tryd.func15, Tryd.ntmps15
      go_wp2_with fail
      refine (isNaN_any p hp _).mono ?_
      rintro e w' ⟨rfl, rfl⟩
      rw [Hn.out]
      go_wp2_with fail
      go_ret
      exact ⟨by rw [fin.out]; rfl, rfl⟩
  · have Hn := Lib.hid hn
    have fin : Hid (admitW p d = false) := by show _ = _; unfold admitW; rw [hn]; rfl
    clear o1 o2 o3 o4 o5 hn hb
    go_enter Tryd.func15, Tryd.ntmps15
    go_wp2_with fail
    refine (isNaN_any p hp _).mono ?_
    rintro e w' ⟨rfl, rfl⟩
    rw [Hn.out]
    go_wp2_with fail
    go_ret
    exact ⟨by rw [fin.out]; rfl, rfl⟩
end Go.Proofs.YtdgphhpeebieaaaDoor
