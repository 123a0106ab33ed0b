/-
  WALK: ChanceMore: the greater the chance, and the less the draw, the more are let in.
-/
import Derived.Test.YtdgphhpeebieaaaDoorCa
import Derived.Test.YtdgphhpeebieaaaDoorRf
namespace Go.Proofs.YtdgphhpeebieaaaDoor
open Go.RowKit FP
set_option linter.unusedVariables false

theorem more_core (x y draw d d2 : Nat) (hx : Hid (Wd x)) (hy : Hid (Wd y)) (hd : Hid (d = draw / 2048)) (hd2 : Hid (d2 = draw / 2 / 2048)) (hw : Hid (Wd draw)) (w : World) (hT : Hid (Tab16 w)) :
    Calls Tryd.prog 4 #[.int .u64 x, .int .u64 y, .int .u64 draw] w fun e w' => e = .returned (.bool true) ∧ Below w.heap.size w w' := by
  have hb : d ≤ 9007199254740991 := by have h1 := hd.out; have h2 := hw.out; unfold Wd at h2; omega
  have hle : d2 ≤ d := by have h1 := hd.out; have h2 := hd2.out; omega
  have hw2 : Hid (Wd (draw / 2)) := by have h2 := hw.out; show Wd _; unfold Wd at *; omega
  obtain ⟨dr2, hdr2⟩ : ∃ dr2, dr2 = draw / 2 := ⟨_, rfl⟩
  rw [← hdr2] at hw2 hd2
  have e5 : IntKind.u64.wrap ((draw : Int) / 2) = (dr2 : Int) := by
    have h2 := hw.out
    unfold Wd at h2
    rw [IntKind.wrap_u64, Int.emod_eq_of_lt (by omega) (by omega)]
    omega
  clear hdr2
  cases nx : isNot x
  · cases ny : isNot y
    · have Nx := Lib.hid nx
      have Ny := Lib.hid ny
      clear nx ny
      cases hs : lessB y x
      · have Hs := Lib.hid hs
        have hL : L x ≤ L y := by unfold lessB at hs; have := of_decide_eq_false hs; omega
        clear hs
        cases ha : admitW x d
        · have Ha := Lib.hid ha
          clear ha hL hb hle
          go_enter Tryd.func4, Tryd.ntmps4
          go_wp2_with fail
          refine (cawake_any _ hT).mono ?_
          rintro e w1 ⟨rfl, hw1⟩
          have W1 := Lib.hid hw1
          clear hw1
          go_wp2_with fail
          refine (refNot_any x hx _).mono ?_
          rintro e w2 ⟨rfl, rfl⟩
          rw [Nx.out]
          go_wp2_with fail
          refine (refNot_any y hy _).mono ?_
          rintro e w2 ⟨rfl, rfl⟩
          rw [Ny.out]
          go_wp2_with fail
          refine (refLess_any y x hy hx _).mono ?_
          rintro e w2 ⟨rfl, rfl⟩
          rw [Hs.out]
          go_wp2_with fail
          refine (admit_any x draw d hx hd hw _).mono ?_
          rintro e w2 ⟨rfl, rfl⟩
          rw [Ha.out]
          go_wp2_with fail
          go_ret
          exact ⟨rfl, W1.out⟩
        · have Ha := Lib.hid ha
          have Hb := Lib.hid (admit_mono hx.out hy.out Nx.out Ny.out hL ha)
          have Hc := Lib.hid (admit_draw (by omega) hle ha)
          clear ha hL hb hle
          go_enter Tryd.func4, Tryd.ntmps4
          go_wp2_with fail
          refine (cawake_any _ hT).mono ?_
          rintro e w1 ⟨rfl, hw1⟩
          have W1 := Lib.hid hw1
          clear hw1
          go_wp2_with fail
          refine (refNot_any x hx _).mono ?_
          rintro e w2 ⟨rfl, rfl⟩
          rw [Nx.out]
          go_wp2_with fail
          refine (refNot_any y hy _).mono ?_
          rintro e w2 ⟨rfl, rfl⟩
          rw [Ny.out]
          go_wp2_with fail
          refine (refLess_any y x hy hx _).mono ?_
          rintro e w2 ⟨rfl, rfl⟩
          rw [Hs.out]
          go_wp2_with fail
          refine (admit_any x draw d hx hd hw _).mono ?_
          rintro e w2 ⟨rfl, rfl⟩
          rw [Ha.out]
          go_wp2_with fail
          refine (admit_any y draw d hy hd hw _).mono ?_
          rintro e w2 ⟨rfl, rfl⟩
          rw [Hb.out]
          go_wp2_with fail
          refine (admit_any x dr2 d2 hx hd2 hw2 _).mono ?_
          rintro e w2 ⟨rfl, rfl⟩
          rw [Hc.out]
          go_wp2_with fail
          go_ret
          exact ⟨rfl, W1.out⟩
      · have Hs := Lib.hid hs
        have hL : L y ≤ L x := by unfold lessB at hs; have := of_decide_eq_true hs; omega
        clear hs
        cases ha : admitW y d
        · have Ha := Lib.hid ha
          clear ha hL hb hle
          go_enter Tryd.func4, Tryd.ntmps4
          go_wp2_with fail
          refine (cawake_any _ hT).mono ?_
          rintro e w1 ⟨rfl, hw1⟩
          have W1 := Lib.hid hw1
          clear hw1
          go_wp2_with fail
          refine (refNot_any x hx _).mono ?_
          rintro e w2 ⟨rfl, rfl⟩
          rw [Nx.out]
          go_wp2_with fail
          refine (refNot_any y hy _).mono ?_
          rintro e w2 ⟨rfl, rfl⟩
          rw [Ny.out]
          go_wp2_with fail
          refine (refLess_any y x hy hx _).mono ?_
          rintro e w2 ⟨rfl, rfl⟩
          rw [Hs.out]
          go_wp2_with fail
          refine (admit_any y draw d hy hd hw _).mono ?_
          rintro e w2 ⟨rfl, rfl⟩
          rw [Ha.out]
          go_wp2_with fail
          go_ret
          exact ⟨rfl, W1.out⟩
        · have Ha := Lib.hid ha
          have Hb := Lib.hid (admit_mono hy.out hx.out Ny.out Nx.out hL ha)
          have Hc := Lib.hid (admit_draw (by omega) hle ha)
          clear ha hL hb hle
          go_enter Tryd.func4, Tryd.ntmps4
          go_wp2_with fail
          refine (cawake_any _ hT).mono ?_
          rintro e w1 ⟨rfl, hw1⟩
          have W1 := Lib.hid hw1
          clear hw1
          go_wp2_with fail
          refine (refNot_any x hx _).mono ?_
          rintro e w2 ⟨rfl, rfl⟩
          rw [Nx.out]
          go_wp2_with fail
          refine (refNot_any y hy _).mono ?_
          rintro e w2 ⟨rfl, rfl⟩
          rw [Ny.out]
          go_wp2_with fail
          refine (refLess_any y x hy hx _).mono ?_
          rintro e w2 ⟨rfl, rfl⟩
          rw [Hs.out]
          go_wp2_with fail
          refine (admit_any y draw d hy hd hw _).mono ?_
          rintro e w2 ⟨rfl, rfl⟩
          rw [Ha.out]
          go_wp2_with fail
          refine (admit_any x draw d hx hd hw _).mono ?_
          rintro e w2 ⟨rfl, rfl⟩
          rw [Hb.out]
          go_wp2_with fail
          refine (admit_any y dr2 d2 hy hd2 hw2 _).mono ?_
          rintro e w2 ⟨rfl, rfl⟩
          rw [Hc.out]
          go_wp2_with fail
          go_ret
          exact ⟨rfl, W1.out⟩
    · have Nx := Lib.hid nx
      have Ny := Lib.hid ny
      clear nx ny hb hle
      go_enter Tryd.func4, Tryd.ntmps4
      go_wp2_with fail
      refine (cawake_any _ hT).mono ?_
      rintro e w1 ⟨rfl, hw1⟩
      have W1 := Lib.hid hw1
      clear hw1
      go_wp2_with fail
      refine (refNot_any x hx _).mono ?_
      rintro e w2 ⟨rfl, rfl⟩
      rw [Nx.out]
      go_wp2_with fail
      refine (refNot_any y hy _).mono ?_
      rintro e w2 ⟨rfl, rfl⟩
      rw [Ny.out]
      go_wp2_with fail
      go_ret
      exact ⟨rfl, W1.out⟩
  · have Nx := Lib.hid nx
    clear nx hb hle
    go_enter Tryd.func4, Tryd.ntmps4
    go_wp2_with fail
    refine (cawake_any _ hT).mono ?_
    rintro e w1 ⟨rfl, hw1⟩
    have W1 := Lib.hid hw1
    clear hw1
    go_wp2_with fail
    refine (refNot_any x hx _).mono ?_
    rintro e w2 ⟨rfl, rfl⟩
    rw [Nx.out]
    go_wp2_with fail
    go_ret
    exact ⟨rfl, W1.out⟩

theorem more_walk (a0 a1 a2 : Int) (w0 : (Lit.int .u64 a0).wf = true) (w1 : (Lit.int .u64 a1).wf = true) (w2 : (Lit.int .u64 a2).wf = true) (w : World) (hT : Tab16 w) :
    Calls Tryd.prog 4 #[.int .u64 a0, .int .u64 a1, .int .u64 a2] w fun e w' => e = .returned (.bool true) ∧ Below w.heap.size w w' := by
  have h0 : 0 ≤ a0 ∧ a0 ≤ 18446744073709551615 := bounds_u64 w0
  have h1 : 0 ≤ a1 ∧ a1 ≤ 18446744073709551615 := bounds_u64 w1
  have h2 : 0 ≤ a2 ∧ a2 ≤ 18446744073709551615 := bounds_u64 w2
  obtain ⟨n, rfl⟩ := Int.eq_ofNat_of_zero_le h0.1
  obtain ⟨m, rfl⟩ := Int.eq_ofNat_of_zero_le h1.1
  obtain ⟨k, rfl⟩ := Int.eq_ofNat_of_zero_le h2.1
  exact more_core n m k _ _ (by show Wd _; unfold Wd; omega) (by show Wd _; unfold Wd; omega) rfl rfl (by show Wd _; unfold Wd; omega) w hT
end Go.Proofs.YtdgphhpeebieaaaDoor
