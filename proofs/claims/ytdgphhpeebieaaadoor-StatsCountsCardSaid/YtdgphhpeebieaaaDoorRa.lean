/-
  WALKS: the document's Admit, by the digits of a number, comes to the program's.
-/
import Derived.Test.YtdgphhpeebieaaaDoorRf
import Derived.Test.YtdgphhpeebieaaaDoorAd
namespace Go.Proofs.YtdgphhpeebieaaaDoor
open Go.RowKit FP
set_option linter.unusedVariables false

set_option maxRecDepth 100000 in
theorem refAdmit_any (p draw d : Nat) (hp : Hid (Wd p)) (hd : Hid (d = draw / 2048)) (hw : Hid (Wd draw)) (w : World) :
    Calls Tryd.prog 19 #[.float .f64 p, .int .u64 draw] w fun e w' => e = .returned (.bool (admitW p d)) ∧ w = w' := by
  have hdb : d ≤ 9007199254740991 := by have h1 := hd.out; have h2 := hw.out; unfold Wd at h2; omega
  have hp' := hp.out
  unfold Wd at hp'
  have e9 : IntKind.u64.wrap ((draw : Int) / 2048) = (d : Int) := by
    have h1 := hd.out
    have h2 := hw.out
    unfold Wd at h2
    rw [IntKind.wrap_u64, Int.emod_eq_of_lt (by omega) (by omega)]
    omega
  obtain ⟨m, hm⟩ : ∃ m : Nat, decide (9223372036854775808 ≤ (p : Int)) = decide (m = 1) := ⟨if 9223372036854775808 ≤ (p : Int) then 1 else 0, by split <;> simp [*]⟩
  obtain ⟨e, he⟩ : ∃ e : Nat, e = p / 4503599627370496 % 2048 := ⟨_, rfl⟩
  obtain ⟨f, hf⟩ : ∃ f : Nat, f = p % 4503599627370496 := ⟨_, rfl⟩
  have Hm := Lib.hid hm; have He := Lib.hid he; have Hf := Lib.hid hf
  cases np : isNot p
  · have Np := Lib.hid np
    by_cases c1 : (9223372036854775808 : Int) ≤ p
    · have fin : Hid (admitW p d = false) := by
        show _ = _
        unfold admitW K
        rw [np, if_neg (by omega), decide_eq_false (by omega)]
        rfl
      have Hm1 : Hid (decide (m = 1) = true) := by show _ = _; rw [← hm]; exact decide_eq_true c1
      clear hm he hf np c1 hp' hdb
      go_enter Tryd.func19, Tryd.ntmps19
      go_wp2_with fail
      refine (refBits_any p m e f hp Hm He Hf _).mono ?_
      rintro en w2 ⟨rfl, rfl⟩
      rw [Hm1.out]
      go_wp2_with fail
      refine (refNot_any p hp _).mono ?_
      rintro en w2 ⟨rfl, rfl⟩
      rw [Np.out]
      go_wp2_with fail
      go_ret
      exact ⟨by rw [fin.out]; rfl, rfl⟩
    · have Hm1 : Hid (decide (m = 1) = false) := by show _ = _; rw [← hm]; exact decide_eq_false c1
      by_cases c2 : e = 0
      · by_cases c3 : f = 0
        · have fin : Hid (admitW p d = false) := by
            show _ = _
            rw [show p = 0 by omega]
            rfl
          have g1 : ((e : Int) == 0) = true := beq_iff_eq.2 (by omega)
          have g2 : ((f : Int) == 0) = true := beq_iff_eq.2 (by omega)
          clear hm he hf np c1 c2 c3 hp' hdb
          go_enter Tryd.func19, Tryd.ntmps19
          go_wp2_with fail
          refine (refBits_any p m e f hp Hm He Hf _).mono ?_
          rintro en w2 ⟨rfl, rfl⟩
          rw [Hm1.out]
          go_wp2_with fail
          refine (refNot_any p hp _).mono ?_
          rintro en w2 ⟨rfl, rfl⟩
          rw [Np.out]
          go_wp2_with fail
          go_ret
          exact ⟨by rw [fin.out]; rfl, rfl⟩
        · obtain ⟨down, hdn⟩ : ∃ down, down = P21 := ⟨_, rfl⟩
          obtain ⟨N0, hN⟩ : ∃ N0, N0 = f - 1 := ⟨_, rfl⟩
          have fin : Hid (admitW p d = decide (d ≤ N0 / 2 ^ down)) := by
            show _ = _
            rw [admit_low (by omega) (by omega) (by omega), hdn, hN, hf, show p % 4503599627370496 = p by omega]
          have g1 : ((e : Int) == 0) = true := beq_iff_eq.2 (by omega)
          have g2 : ((f : Int) == 0) = false := beq_eq_false_iff_ne.2 (by omega)
          have g3 : ¬ 0 < e := by omega
          have g4 : (e : Int) < 1023 := by omega
          have g5 : IntKind.u64.wrap ((f : Int) - 1) = (N0 : Int) := by rw [IntKind.wrap_u64, Int.emod_eq_of_lt (by omega) (by omega)]; omega
          have g7 : Hid (N0 < 9007199254740992) := by show _ < _; omega
          have Hdn : Hid ((1021 : Int) = (down : Int)) := by show _ = _; rw [hdn]; rfl
          have HN := Lib.hid hN
          clear hm he hf np c1 c2 c3 hp' hdn hN hdb
          go_enter Tryd.func19, Tryd.ntmps19
          go_wp2_with fail
          refine (refBits_any p m e f hp Hm He Hf _).mono ?_
          rintro en w2 ⟨rfl, rfl⟩
          rw [Hm1.out]
          go_wp2_with fail
          refine (refNot_any p hp _).mono ?_
          rintro en w2 ⟨rfl, rfl⟩
          rw [Np.out]
          go_wp2_with fail
          go_loop [7, 10] (fun s7 s10 => ∃ i q : Nat, i ≤ down ∧ Hid (q = N0 / 2 ^ i) ∧ s7 = .int .u64 q ∧ s10 = .int .u64 i) (fun _ s10 => down - (intOf s10).toNat)
          case atStart => exact ⟨0, N0, Nat.zero_le _, by show _ = _; rw [Nat.pow_zero, Nat.div_one], rfl, rfl⟩
          case round =>
            obtain ⟨i, q, hi, hq, rfl, rfl⟩ := hrel
            obtain ⟨q2, hq2⟩ : ∃ q2, q2 = q / 2 := ⟨_, rfl⟩
            have hqb : IntKind.u64.wrap ((q : Int) / 2) = (q2 : Int) := by
              have h1 := hq.out
              have h2 : N0 / 2 ^ i ≤ N0 := Nat.div_le_self _ _
              have h3 := g7.out
              rw [← h1] at h2
              rw [IntKind.wrap_u64, Int.emod_eq_of_lt (by omega) (by omega)]; omega
            have Hq2 := Lib.hid hq2
            clear hq2
            by_cases hlt : i < down
            · have ht : (i : Int) < 1021 := by have := Hdn.out; omega
              by_cases hz : 0 < q
              · have Hq : Hid (q2 = N0 / 2 ^ (i + 1)) := by show _ = _; rw [div_step, ← hq.out, Hq2.out]
                go_wp2_with fail
                go_round
                case rel => exact ⟨i + 1, q2, by omega, Hq, rfl, by go_num⟩
                case measure => simp [intOf]; omega
              · have Hx : Hid (admitW p d = decide (d ≤ q)) := by
                  show _ = _
                  have h1 : q = 0 := by omega
                  rw [fin.out, div_gone (i := i) (by rw [← hq.out]; exact h1) (by omega), h1]
                go_wp2_with fail
                go_ret
                exact ⟨by rw [Hx.out]; rfl, rfl⟩
            · have ht : ¬ (i : Int) < 1021 := by have := Hdn.out; omega
              have Hx : Hid (admitW p d = decide (d ≤ q)) := by
                show _ = _
                rw [fin.out, hq.out, show i = down by omega]
              go_wp2_with fail
              go_ret
              exact ⟨by rw [Hx.out]; rfl, rfl⟩
      · have g1 : ((e : Int) == 0) = false := beq_eq_false_iff_ne.2 (by omega)
        by_cases c3 : 1023 ≤ e
        · have fin : Hid (admitW p d = true) := by
            show _ = _
            unfold admitW K
            unfold isNot at np
            have h1 := of_decide_eq_false np
            rw [if_pos (by omega)]
            unfold isNot
            rw [np, decide_eq_true (by omega), decide_eq_true (show (one : Int) ≤ p by unfold one; omega)]
            rfl
          have g4 : (1023 : Int) ≤ e := by omega
          clear hm he hf np c1 c2 c3 hp' hdb
          go_enter Tryd.func19, Tryd.ntmps19
          go_wp2_with fail
          refine (refBits_any p m e f hp Hm He Hf _).mono ?_
          rintro en w2 ⟨rfl, rfl⟩
          rw [Hm1.out]
          go_wp2_with fail
          refine (refNot_any p hp _).mono ?_
          rintro en w2 ⟨rfl, rfl⟩
          rw [Np.out]
          go_wp2_with fail
          go_ret
          exact ⟨by rw [fin.out]; rfl, rfl⟩
        · obtain ⟨down, hdn⟩ : ∃ down, down = 1022 - e := ⟨_, rfl⟩
          obtain ⟨N0, hN⟩ : ∃ N0, N0 = 4503599627370496 + f - 1 := ⟨_, rfl⟩
          have fin : Hid (admitW p d = decide (d ≤ N0 / 2 ^ down)) := by
            show _ = _
            rw [admit_high (e := e) (by omega) (by omega) (by omega) (by omega), hdn, hN, hf]
          have g3 : 0 < e := by omega
          have g4 : (e : Int) < 1023 := by omega
          obtain ⟨M, hM⟩ : ∃ M, M = f + 4503599627370496 := ⟨_, rfl⟩
          have g6 : IntKind.u64.wrap ((f : Int) + 4503599627370496) = (M : Int) := by rw [IntKind.wrap_u64, Int.emod_eq_of_lt (by omega) (by omega)]; omega
          have g5 : IntKind.u64.wrap ((M : Int) - 1) = (N0 : Int) := by rw [IntKind.wrap_u64, Int.emod_eq_of_lt (by omega) (by omega)]; omega
          have g7 : Hid (N0 < 9007199254740992) := by show _ < _; omega
          have Hdn : Hid ((1022 : Int) - (e : Int) = (down : Int)) := by show _ = _; omega
          have HN := Lib.hid hN
          clear hm he hf np c1 c2 c3 hp' hdn hN hdb hM
          go_enter Tryd.func19, Tryd.ntmps19
          go_wp2_with fail
          refine (refBits_any p m e f hp Hm He Hf _).mono ?_
          rintro en w2 ⟨rfl, rfl⟩
          rw [Hm1.out]
          go_wp2_with fail
          refine (refNot_any p hp _).mono ?_
          rintro en w2 ⟨rfl, rfl⟩
          rw [Np.out]
          go_wp2_with fail
          go_loop [7, 10] (fun s7 s10 => ∃ i q : Nat, i ≤ down ∧ Hid (q = N0 / 2 ^ i) ∧ s7 = .int .u64 q ∧ s10 = .int .u64 i) (fun _ s10 => down - (intOf s10).toNat)
          case atStart => exact ⟨0, N0, Nat.zero_le _, by show _ = _; rw [Nat.pow_zero, Nat.div_one], rfl, rfl⟩
          case round =>
            obtain ⟨i, q, hi, hq, rfl, rfl⟩ := hrel
            obtain ⟨q2, hq2⟩ : ∃ q2, q2 = q / 2 := ⟨_, rfl⟩
            have hqb : IntKind.u64.wrap ((q : Int) / 2) = (q2 : Int) := by
              have h1 := hq.out
              have h2 : N0 / 2 ^ i ≤ N0 := Nat.div_le_self _ _
              have h3 := g7.out
              rw [← h1] at h2
              rw [IntKind.wrap_u64, Int.emod_eq_of_lt (by omega) (by omega)]; omega
            have Hq2 := Lib.hid hq2
            clear hq2
            by_cases hlt : i < down
            · have ht : (i : Int) < 1022 - (e : Int) := by have := Hdn.out; omega
              by_cases hz : 0 < q
              · have Hq : Hid (q2 = N0 / 2 ^ (i + 1)) := by show _ = _; rw [div_step, ← hq.out, Hq2.out]
                go_wp2_with fail
                go_round
                case rel => exact ⟨i + 1, q2, by omega, Hq, rfl, by go_num⟩
                case measure => simp [intOf]; omega
              · have Hx : Hid (admitW p d = decide (d ≤ q)) := by
                  show _ = _
                  have h1 : q = 0 := by omega
                  rw [fin.out, div_gone (i := i) (by rw [← hq.out]; exact h1) (by omega), h1]
                go_wp2_with fail
                go_ret
                exact ⟨by rw [Hx.out]; rfl, rfl⟩
            · have ht : ¬ (i : Int) < 1022 - (e : Int) := by have := Hdn.out; omega
              have Hx : Hid (admitW p d = decide (d ≤ q)) := by
                show _ = _
                rw [fin.out, hq.out, show i = down by omega]
              go_wp2_with fail
              go_ret
              exact ⟨by rw [Hx.out]; rfl, rfl⟩
  · have Np := Lib.hid np
    have fin : Hid (admitW p d = false) := by show _ = _; unfold admitW; rw [np]; rfl
    cases hm1 : decide (m = 1)
    all_goals
      have Hm1 := Lib.hid hm1
      clear hm he hf np hm1 hp' hdb
      go_enter Tryd.func19, Tryd.ntmps19
      go_wp2_with fail
      refine (refBits_any p m e f hp Hm He Hf _).mono ?_
      rintro en w2 ⟨rfl, rfl⟩
      rw [Hm1.out]
      go_wp2_with fail
      refine (refNot_any p hp _).mono ?_
      rintro en w2 ⟨rfl, rfl⟩
      rw [Np.out]
      go_wp2_with fail
      go_ret
      exact ⟨by rw [fin.out]; rfl, rfl⟩
end Go.Proofs.YtdgphhpeebieaaaDoor
