/-
  WALK: ChanceClamps: what is clamped keeps its order, and is let in as often as it was.
-/
import Derived.Test.YtdgphhpeebieaaaDoorOr
import Derived.Test.YtdgphhpeebieaaaDoorAd
namespace Go.Proofs.YtdgphhpeebieaaaDoor
open Go.RowKit FP
set_option linter.unusedVariables false

theorem admit_hi {x d : Nat} (hn : isNot x = false) (h : (one : Int) ≤ K x) : admitW x d = true := by
  unfold admitW
  rw [hn]
  simp only [Bool.not_false, Bool.true_and, Bool.and_eq_true, Bool.or_eq_true, decide_eq_true_eq]
  exact ⟨by unfold one at h; omega, .inl h⟩
theorem admit_clamp (x d : Nat) (hx : Wd x) (hd : d ≤ 9007199254740991) : admitW (clampW x) d = admitW x d := by
  by_cases hn : isNot x = true
  · unfold admitW clampW; rw [hn]; rfl
  · have hn : isNot x = false := by simpa using hn
    by_cases h1 : (one : Int) < K x
    · have e : clampW x = one := by unfold clampW; rw [hn, if_pos h1]; rfl
      rw [e, admit_hi hn (by omega), admit_hi (isNot_le_one (Nat.le_refl _)) (by rw [K_le_one (Nat.le_refl _)]; exact Int.le_refl _)]
    · by_cases h2 : 0 < K x
      · have e : clampW x = x := by unfold clampW; rw [hn, if_neg h1, if_pos h2]; rfl
        rw [e]
      · have e : clampW x = 0 := by unfold clampW; rw [hn, if_neg h1, if_neg h2]; rfl
        rw [e]
        unfold admitW
        rw [hn, show K 0 = 0 from rfl, decide_eq_false (show ¬ (0 : Int) < 0 by omega), decide_eq_false h2]
        simp
theorem clamp_mono (x y : Nat) (hx : Wd x) (hy : Wd y) (nx : isNot x = false) (ny : isNot y = false) (h : orderI x y ≤ 0) : orderI (clampW x) (clampW y) ≤ 0 := by
  have h1 := orderI_le.1 h
  rw [T_num nx, T_num ny] at h1
  refine orderI_le.2 ?_
  rw [T_num (isNot_le_one (clampW_le x)), T_num (isNot_le_one (clampW_le y))]
  have kx := L_K hx
  have ky := L_K hy
  have hK : K x ≤ K y := by
    unfold L at h1; unfold K; unfold Wd at hx hy
    split at h1 <;> split at h1 <;> rename_i c1 c2 <;> simp only [c1, c2, if_true, if_false] <;> omega
  have lc : ∀ z, z ≤ one → L z = z := fun z hz => by unfold L; unfold one at hz; rw [if_pos (by omega)]
  rw [lc _ (clampW_le x), lc _ (clampW_le y)]
  have pk : ∀ z, Wd z → 0 < K z → (z : Int) = K z := fun z hz h => by unfold K at *; unfold Wd at hz; split at h <;> rename_i c <;> simp only [c, if_true, if_false] <;> omega
  unfold clampW
  rw [nx, ny]
  simp only [Bool.false_eq_true, if_false]
  by_cases c1 : (one : Int) < K x
  · rw [if_pos c1, if_pos (by omega)]; omega
  · rw [if_neg c1]
    by_cases c2 : 0 < K x
    · rw [if_pos c2]
      have := pk x hx c2
      by_cases c3 : (one : Int) < K y
      · rw [if_pos c3]; omega
      · rw [if_neg c3, if_pos (by omega)]
        have := pk y hy (by omega)
        omega
    · rw [if_neg c2]; omega

theorem clamps_core (x y draw d : Nat) (hx : Hid (Wd x)) (hy : Hid (Wd y)) (hd : Hid (d = draw / 2048)) (hw : Hid (Wd draw)) (w : World) (hT : Hid (Tab16 w)) :
    Calls Tryd.prog 8 #[.int .u64 x, .int .u64 y, .int .u64 draw] w fun e w' => e = .returned (.bool true) ∧ Below w.heap.size w w' := by
  have hdb : d ≤ 9007199254740991 := by have h1 := hd.out; have h2 := hw.out; unfold Wd at h2; omega
  have Hc := Lib.hid (admit_clamp x d hx.out hdb)
  have Hcx : Hid (Wd (clampW x)) := clampW_wd x
  have Hcy : Hid (Wd (clampW y)) := clampW_wd y
  obtain ⟨b, hb⟩ : ∃ b, b = admitW x d := ⟨_, rfl⟩
  have Hb := Lib.hid hb.symm
  clear hb hdb
  cases nx : isNot x
  · have Nx := Lib.hid nx
    cases ny : isNot y
    · have Ny := Lib.hid ny
      by_cases ho : 0 < orderI x y
      · obtain ⟨o, hoo⟩ : ∃ o, o = orderI x y := ⟨_, rfl⟩
        rw [← hoo] at ho
        have Ho := Lib.hid hoo.symm
        clear nx ny hoo
        go_enter Tryd.func8, Tryd.ntmps8
        go_wp2_with fail
        refine (cawake_any _ hT).mono ?_
        rintro e w1 ⟨rfl, hw1⟩
        have W1 := Lib.hid hw1
        clear hw1
        go_wp2_with fail
        refine (clamp_any x hx _).mono ?_
        rintro e w2 ⟨rfl, rfl⟩
        go_wp2_with fail
        refine (admit_any (clampW x) draw d Hcx hd hw _).mono ?_
        rintro e w2 ⟨rfl, rfl⟩
        rw [Hc.out, Hb.out]
        go_wp2_with fail
        refine (admit_any x draw d hx hd hw _).mono ?_
        rintro e w2 ⟨rfl, rfl⟩
        rw [Hb.out]
        go_wp2_with fail
        refine (refNot_any x hx _).mono ?_
        rintro e w2 ⟨rfl, rfl⟩
        rw [Nx.out]
        go_wp2_with fail
        refine (refNot_any y hy _).mono ?_
        rintro e w2 ⟨rfl, rfl⟩
        rw [Ny.out]
        go_wp2_with fail
        refine (order_any x y hx hy _).mono ?_
        rintro e w2 ⟨rfl, rfl⟩
        rw [Ho.out]
        go_wp2_with fail
        go_ret
        exact ⟨rfl, W1.out⟩
      · have hm := clamp_mono x y hx.out hy.out nx ny (by omega)
        clear nx ny
        go_enter Tryd.func8, Tryd.ntmps8
        go_wp2_with fail
        refine (cawake_any _ hT).mono ?_
        rintro e w1 ⟨rfl, hw1⟩
        have W1 := Lib.hid hw1
        clear hw1
        go_wp2_with fail
        refine (clamp_any x hx _).mono ?_
        rintro e w2 ⟨rfl, rfl⟩
        go_wp2_with fail
        refine (admit_any (clampW x) draw d Hcx hd hw _).mono ?_
        rintro e w2 ⟨rfl, rfl⟩
        rw [Hc.out, Hb.out]
        go_wp2_with fail
        refine (admit_any x draw d hx hd hw _).mono ?_
        rintro e w2 ⟨rfl, rfl⟩
        rw [Hb.out]
        go_wp2_with fail
        refine (refNot_any x hx _).mono ?_
        rintro e w2 ⟨rfl, rfl⟩
        rw [Nx.out]
        go_wp2_with fail
        refine (refNot_any y hy _).mono ?_
        rintro e w2 ⟨rfl, rfl⟩
        rw [Ny.out]
        go_wp2_with fail
        refine (order_any x y hx hy _).mono ?_
        rintro e w2 ⟨rfl, rfl⟩
        go_wp2_with fail
        refine (clamp_any x hx _).mono ?_
        rintro e w2 ⟨rfl, rfl⟩
        go_wp2_with fail
        refine (clamp_any y hy _).mono ?_
        rintro e w2 ⟨rfl, rfl⟩
        go_wp2_with fail
        refine (order_any (clampW x) (clampW y) Hcx Hcy _).mono ?_
        rintro e w2 ⟨rfl, rfl⟩
        go_wp2_with fail
        go_ret
        exact ⟨rfl, W1.out⟩
    · have Ny := Lib.hid ny
      clear nx ny
      go_enter Tryd.func8, Tryd.ntmps8
      go_wp2_with fail
      refine (cawake_any _ hT).mono ?_
      rintro e w1 ⟨rfl, hw1⟩
      have W1 := Lib.hid hw1
      clear hw1
      go_wp2_with fail
      refine (clamp_any x hx _).mono ?_
      rintro e w2 ⟨rfl, rfl⟩
      go_wp2_with fail
      refine (admit_any (clampW x) draw d Hcx hd hw _).mono ?_
      rintro e w2 ⟨rfl, rfl⟩
      rw [Hc.out, Hb.out]
      go_wp2_with fail
      refine (admit_any x draw d hx hd hw _).mono ?_
      rintro e w2 ⟨rfl, rfl⟩
      rw [Hb.out]
      go_wp2_with fail
      refine (refNot_any x hx _).mono ?_
      rintro e w2 ⟨rfl, rfl⟩
      rw [Nx.out]
      go_wp2_with fail
      refine (refNot_any y hy _).mono ?_
      rintro e w2 ⟨rfl, rfl⟩
      rw [Ny.out]
      go_wp2_with fail
      go_ret
      exact ⟨rfl, W1.out⟩
  · have Nx := Lib.hid nx
    clear nx
    go_enter Tryd.func8, Tryd.ntmps8
    go_wp2_with fail
    refine (cawake_any _ hT).mono ?_
    rintro e w1 ⟨rfl, hw1⟩
    have W1 := Lib.hid hw1
    clear hw1
    go_wp2_with fail
    refine (clamp_any x hx _).mono ?_
    rintro e w2 ⟨rfl, rfl⟩
    go_wp2_with fail
    refine (admit_any (clampW x) draw d Hcx hd hw _).mono ?_
    rintro e w2 ⟨rfl, rfl⟩
    rw [Hc.out, Hb.out]
    go_wp2_with fail
    refine (admit_any x draw d hx hd hw _).mono ?_
    rintro e w2 ⟨rfl, rfl⟩
    rw [Hb.out]
    go_wp2_with fail
    refine (refNot_any x hx _).mono ?_
    rintro e w2 ⟨rfl, rfl⟩
    rw [Nx.out]
    go_wp2_with fail
    go_ret
    exact ⟨rfl, W1.out⟩

theorem clamps_walk (a0 a1 a2 : Int) (w0 : (Lit.int .u64 a0).wf = true) (w1 : (Lit.int .u64 a1).wf = true) (w2 : (Lit.int .u64 a2).wf = true) (w : World) (hT : Tab16 w) :
    Calls Tryd.prog 8 #[.int .u64 a0, .int .u64 a1, .int .u64 a2] w fun e w' => e = .returned (.bool true) ∧ Below w.heap.size w w' := by
  have h0 : 0 ≤ a0 ∧ a0 ≤ 18446744073709551615 := bounds_u64 w0
  have h1 : 0 ≤ a1 ∧ a1 ≤ 18446744073709551615 := bounds_u64 w1
  have h2 : 0 ≤ a2 ∧ a2 ≤ 18446744073709551615 := bounds_u64 w2
  obtain ⟨n, rfl⟩ := Int.eq_ofNat_of_zero_le h0.1
  obtain ⟨m, rfl⟩ := Int.eq_ofNat_of_zero_le h1.1
  obtain ⟨k, rfl⟩ := Int.eq_ofNat_of_zero_le h2.1
  exact clamps_core n m k _ (by show Wd _; unfold Wd; omega) (by show Wd _; unfold Wd; omega) rfl (by show Wd _; unfold Wd; omega) w hT
end Go.Proofs.YtdgphhpeebieaaaDoor
