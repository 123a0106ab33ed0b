/-
  WALKS: the document's answer for layer 4 (Bits, Not, Less, Order, Clamp), each shown to come to the same plain function as the program's.
-/
import Derived.Test.YtdgphhpeebieaaaDoorCo
import Derived.OpenShut
namespace Go.Proofs.YtdgphhpeebieaaaDoor
open Go.RowKit FP
set_option linter.unusedVariables false

theorem refBits_any (x m e f : Nat) (hx : Hid (Wd x)) (hm : Hid (decide (9223372036854775808 ≤ (x : Int)) = decide (m = 1))) (he : Hid (e = x / 4503599627370496 % 2048)) (hf : Hid (f = x % 4503599627370496)) (w : World) :
    Calls Tryd.prog 48 #[.float .f64 x] w fun en w' => en = .returned (.tuple #[.bool (decide (m = 1)), .int .u64 e, .int .u64 f]) ∧ w = w' := by
  have e1 : (IntKind.u64.wrap ((x : Int) / 4503599627370496)).tmod 2048 = (e : Int) := by
    have h1 := he.out
    have h2 := hx.out
    unfold Wd at h2
    rw [IntKind.wrap_u64, Int.emod_eq_of_lt (by omega) (by omega), Int.tmod_eq_emod_of_nonneg (by omega)]
    omega
  have e2 : (x : Int) % 4503599627370496 = (f : Int) := by have := hf.out; omega
  go_enter Tryd.func48, Tryd.ntmps48
  go_wp2
  go_ret3
  exact ⟨by rw [← hm.out, ← e2]; rfl, rfl⟩

theorem refNot_any (x : Nat) (hx : Hid (Wd x)) (w : World) :
    Calls Tryd.prog 17 #[.float .f64 x] w fun e w' => e = .returned (.bool (isNot x)) ∧ w = w' := by
  have h := hx.out
  unfold Wd at h
  obtain ⟨m, hm⟩ : ∃ m : Nat, decide (9223372036854775808 ≤ (x : Int)) = decide (m = 1) := ⟨if 9223372036854775808 ≤ (x : Int) then 1 else 0, by split <;> simp [*]⟩
  obtain ⟨e, he⟩ : ∃ e : Nat, e = x / 4503599627370496 % 2048 := ⟨_, rfl⟩
  obtain ⟨f, hf⟩ : ∃ f : Nat, f = x % 4503599627370496 := ⟨_, rfl⟩
  by_cases c1 : e = 2047
  · by_cases c2 : 0 < f
    · have fin : Hid (isNot x = true) := by show _ = _; unfold isNot; exact decide_eq_true (by omega)
      have g1 : ((e : Int) == 2047) = true := beq_iff_eq.2 (by omega)
      have Hm := Lib.hid hm; have He := Lib.hid he; have Hf := Lib.hid hf
      clear hm he hf c1 h
      go_enter Tryd.func17, Tryd.ntmps17
      go_wp2_with fail
      refine (refBits_any x m e f hx Hm He Hf _).mono ?_
      rintro en w' ⟨rfl, rfl⟩
      go_wp2_with fail
      go_ret
      exact ⟨by rw [fin.out]; rfl, rfl⟩
    · have fin : Hid (isNot x = false) := by show _ = _; unfold isNot; exact decide_eq_false (by omega)
      have g1 : ((e : Int) == 2047) = true := beq_iff_eq.2 (by omega)
      have g2 : decide (0 < (f : Int)) = false := decide_eq_false (by omega)
      have Hm := Lib.hid hm; have He := Lib.hid he; have Hf := Lib.hid hf
      clear hm he hf c1 h
      go_enter Tryd.func17, Tryd.ntmps17
      go_wp2_with fail
      refine (refBits_any x m e f hx Hm He Hf _).mono ?_
      rintro en w' ⟨rfl, rfl⟩
      go_wp2_with fail
      go_ret
      exact ⟨by rw [fin.out]; rfl, rfl⟩
  · have fin : Hid (isNot x = false) := by show _ = _; unfold isNot; exact decide_eq_false (by omega)
    have g1 : ((e : Int) == 2047) = false := beq_eq_false_iff_ne.2 (by omega)
    have Hm := Lib.hid hm; have He := Lib.hid he; have Hf := Lib.hid hf
    clear hm he hf c1 h
    go_enter Tryd.func17, Tryd.ntmps17
    go_wp2_with fail
    refine (refBits_any x m e f hx Hm He Hf _).mono ?_
    rintro en w' ⟨rfl, rfl⟩
    go_wp2_with fail
    go_ret
    exact ⟨by rw [fin.out]; rfl, rfl⟩

theorem refLess_any (a b : Nat) (ha : Hid (Wd a)) (hb : Hid (Wd b)) (w : World) :
    Calls Tryd.prog 18 #[.float .f64 a, .float .f64 b] w fun e w' => e = .returned (.bool (lessB a b)) ∧ w = w' := by
  have h1 := ha.out
  have h2 := hb.out
  unfold Wd at h1 h2
  by_cases c1 : (9223372036854775808 : Int) ≤ a
  · by_cases c2 : (9223372036854775808 : Int) ≤ b
    · have fin : Hid (lessB a b = decide (b < a)) := by
        show _ = _
        unfold lessB L
        rw [if_neg (by omega), if_neg (by omega)]
        congr 1
        rw [eq_iff_iff]
        omega
      clear h1 h2
      go_enter Tryd.func18, Tryd.ntmps18
      go_wp2_with fail
      go_ret
      exact ⟨by rw [fin.out]; rfl, rfl⟩
    · have fin : Hid (lessB a b = true) := by
        show _ = _
        unfold lessB L
        rw [if_neg (by omega), if_pos (by omega)]
        exact decide_eq_true (by omega)
      have c2' : decide ((9223372036854775808 : Int) ≤ b) = false := decide_eq_false c2
      clear h1 h2 c2
      go_enter Tryd.func18, Tryd.ntmps18
      go_wp2_with fail
      go_ret
      exact ⟨by rw [fin.out]; rfl, rfl⟩
  · have c1' : decide ((9223372036854775808 : Int) ≤ a) = false := decide_eq_false c1
    by_cases c2 : (9223372036854775808 : Int) ≤ b
    · have fin : Hid (lessB a b = false) := by
        show _ = _
        unfold lessB L
        rw [if_pos (by omega), if_neg (by omega)]
        exact decide_eq_false (by omega)
      clear h1 h2 c1
      go_enter Tryd.func18, Tryd.ntmps18
      go_wp2_with fail
      go_ret
      exact ⟨by rw [fin.out]; rfl, rfl⟩
    · have fin : Hid (lessB a b = decide (a < b)) := by
        show _ = _
        unfold lessB L
        rw [if_pos (by omega), if_pos (by omega)]
        congr 1
        rw [eq_iff_iff]
        omega
      have c2' : decide ((9223372036854775808 : Int) ≤ b) = false := decide_eq_false c2
      clear h1 h2 c1 c2
      go_enter Tryd.func18, Tryd.ntmps18
      go_wp2_with fail
      go_ret
      exact ⟨by rw [fin.out]; rfl, rfl⟩
theorem orderI_num {a b : Nat} (na : isNot a = false) (nb : isNot b = false) : orderI a b = if lessB a b = true then -1 else if lessB b a = true then 1 else 0 := by
  unfold orderI lessB
  rw [T_num na, T_num nb]
  simp only [decide_eq_true_eq]

theorem refOrder_any (a b : Nat) (ha : Hid (Wd a)) (hb : Hid (Wd b)) (w : World) :
    Calls Tryd.prog 31 #[.float .f64 a, .float .f64 b] w fun e w' => e = .returned (.int .i64 (orderI a b)) ∧ w = w' := by
  cases na : isNot a
  · cases nb : isNot b
    · have ho := orderI_num na nb
      have Na := Lib.hid na
      have Nb := Lib.hid nb
      cases hl : lessB a b
      · cases hm : lessB b a
        · have fin : Hid (orderI a b = 0) := by rw [hl, hm] at ho; exact ho
          have Hl := Lib.hid hl
          have Hm := Lib.hid hm
          clear na nb hl hm ho
          go_enter Tryd.func31, Tryd.ntmps31
          go_wp2_with fail
          refine (refNot_any a ha _).mono ?_
          rintro e w2 ⟨rfl, rfl⟩
          rw [Na.out]
          go_wp2_with fail
          refine (refNot_any a ha _).mono ?_
          rintro e w2 ⟨rfl, rfl⟩
          rw [Na.out]
          go_wp2_with fail
          refine (refNot_any b hb _).mono ?_
          rintro e w2 ⟨rfl, rfl⟩
          rw [Nb.out]
          go_wp2_with fail
          refine (refLess_any a b ha hb _).mono ?_
          rintro e w2 ⟨rfl, rfl⟩
          rw [Hl.out]
          go_wp2_with fail
          refine (refLess_any b a hb ha _).mono ?_
          rintro e w2 ⟨rfl, rfl⟩
          rw [Hm.out]
          go_wp2_with fail
          go_ret
          exact ⟨by rw [fin.out]; rfl, rfl⟩
        · have fin : Hid (orderI a b = 1) := by rw [hl, hm] at ho; exact ho
          have Hl := Lib.hid hl
          have Hm := Lib.hid hm
          clear na nb hl hm ho
          go_enter Tryd.func31, Tryd.ntmps31
          go_wp2_with fail
          refine (refNot_any a ha _).mono ?_
          rintro e w2 ⟨rfl, rfl⟩
          rw [Na.out]
          go_wp2_with fail
          refine (refNot_any a ha _).mono ?_
          rintro e w2 ⟨rfl, rfl⟩
          rw [Na.out]
          go_wp2_with fail
          refine (refNot_any b hb _).mono ?_
          rintro e w2 ⟨rfl, rfl⟩
          rw [Nb.out]
          go_wp2_with fail
          refine (refLess_any a b ha hb _).mono ?_
          rintro e w2 ⟨rfl, rfl⟩
          rw [Hl.out]
          go_wp2_with fail
          refine (refLess_any b a hb ha _).mono ?_
          rintro e w2 ⟨rfl, rfl⟩
          rw [Hm.out]
          go_wp2_with fail
          go_ret
          exact ⟨by rw [fin.out]; rfl, rfl⟩
      · have fin : Hid (orderI a b = -1) := by rw [hl] at ho; exact ho
        have Hl := Lib.hid hl
        clear na nb hl ho
        go_enter Tryd.func31, Tryd.ntmps31
        go_wp2_with fail
        refine (refNot_any a ha _).mono ?_
        rintro e w2 ⟨rfl, rfl⟩
        rw [Na.out]
        go_wp2_with fail
        refine (refNot_any a ha _).mono ?_
        rintro e w2 ⟨rfl, rfl⟩
        rw [Na.out]
        go_wp2_with fail
        refine (refNot_any b hb _).mono ?_
        rintro e w2 ⟨rfl, rfl⟩
        rw [Nb.out]
        go_wp2_with fail
        refine (refLess_any a b ha hb _).mono ?_
        rintro e w2 ⟨rfl, rfl⟩
        rw [Hl.out]
        go_wp2_with fail
        go_ret
        exact ⟨by rw [fin.out]; rfl, rfl⟩
    · have fin : Hid (orderI a b = -1) := by
        show _ = _
        unfold orderI
        rw [T_num na, show T b = 18446744073709551616 by unfold T; rw [nb]; rfl, if_pos]
        have := ha.out; unfold Wd at this; unfold L; split <;> omega
      have Na := Lib.hid na
      have Nb := Lib.hid nb
      clear na nb
      go_enter Tryd.func31, Tryd.ntmps31
      go_wp2_with fail
      refine (refNot_any a ha _).mono ?_
      rintro e w2 ⟨rfl, rfl⟩
      rw [Na.out]
      go_wp2_with fail
      refine (refNot_any a ha _).mono ?_
      rintro e w2 ⟨rfl, rfl⟩
      rw [Na.out]
      go_wp2_with fail
      refine (refNot_any b hb _).mono ?_
      rintro e w2 ⟨rfl, rfl⟩
      rw [Nb.out]
      go_wp2_with fail
      go_ret
      exact ⟨by rw [fin.out]; rfl, rfl⟩
  · cases nb : isNot b
    · have fin : Hid (orderI a b = 1) := by
        show _ = _
        unfold orderI
        rw [T_num nb, show T a = 18446744073709551616 by unfold T; rw [na]; rfl]
        have := hb.out; unfold Wd at this; unfold L; split <;> rw [if_neg (by omega), if_pos (by omega)]
      have Na := Lib.hid na
      have Nb := Lib.hid nb
      clear na nb
      go_enter Tryd.func31, Tryd.ntmps31
      go_wp2_with fail
      refine (refNot_any a ha _).mono ?_
      rintro e w2 ⟨rfl, rfl⟩
      rw [Na.out]
      go_wp2_with fail
      refine (refNot_any b hb _).mono ?_
      rintro e w2 ⟨rfl, rfl⟩
      rw [Nb.out]
      go_wp2_with fail
      refine (refNot_any a ha _).mono ?_
      rintro e w2 ⟨rfl, rfl⟩
      rw [Na.out]
      go_wp2_with fail
      go_ret
      exact ⟨by rw [fin.out]; rfl, rfl⟩
    · have fin : Hid (orderI a b = 0) := orderI_nots na nb
      have Na := Lib.hid na
      have Nb := Lib.hid nb
      clear na nb
      go_enter Tryd.func31, Tryd.ntmps31
      go_wp2_with fail
      refine (refNot_any a ha _).mono ?_
      rintro e w2 ⟨rfl, rfl⟩
      rw [Na.out]
      go_wp2_with fail
      refine (refNot_any b hb _).mono ?_
      rintro e w2 ⟨rfl, rfl⟩
      rw [Nb.out]
      go_wp2_with fail
      go_ret
      exact ⟨by rw [fin.out]; rfl, rfl⟩

theorem refClamp_any (x : Nat) (hx : Hid (Wd x)) (w : World) :
    Calls Tryd.prog 28 #[.float .f64 x] w fun e w' => e = .returned (.float .f64 (clampW x)) ∧ w = w' := by
  have h := hx.out
  unfold Wd at h
  cases nx : isNot x
  · have Nx := Lib.hid nx
    have hn := isNot_false nx
    by_cases c1 : lessB x 0 = true
    · have fin : Hid (clampW x = 0) := by
        show _ = _
        unfold clampW K
        unfold lessB L at c1
        have c := of_decide_eq_true c1
        rw [nx]
        simp only [Bool.false_eq_true, if_false]
        unfold one
        split at c <;> rename_i c2 <;> simp only [c2, if_true, if_false]
        · omega
        · rw [if_neg (by omega), if_neg (by omega)]
      have Hl := Lib.hid c1
      clear nx c1 hn h
      go_enter Tryd.func28, Tryd.ntmps28
      go_wp2_with fail
      refine (refNot_any x hx _).mono ?_
      rintro e w2 ⟨rfl, rfl⟩
      rw [Nx.out]
      go_wp2_with fail
      refine (refLess_any x 0 hx (show Wd 0 by unfold Wd; omega) _).mono ?_
      rintro e w2 ⟨rfl, rfl⟩
      rw [Hl.out]
      go_wp2_with fail
      go_ret
      exact ⟨by rw [fin.out]; rfl, rfl⟩
    · have c1' : lessB x 0 = false := by simpa using c1
      have hp : x < 9223372036854775808 := by
        unfold lessB L at c1'
        have c := of_decide_eq_false c1'
        split at c
        · assumption
        · simp at c; omega
      by_cases c2 : lessB 4607182418800017408 x = true
      · have fin : Hid (clampW x = 4607182418800017408) := by
          show _ = _
          unfold clampW K
          unfold lessB L at c2
          have c := of_decide_eq_true c2
          rw [nx]
          simp only [Bool.false_eq_true, if_false, hp, if_true] at c ⊢
          unfold one
          rw [if_pos]
          simp at c; omega
        have Hl := Lib.hid c1'
        have Hm := Lib.hid c2
        clear nx c1 c1' c2 hn h hp
        go_enter Tryd.func28, Tryd.ntmps28
        go_wp2_with fail
        refine (refNot_any x hx _).mono ?_
        rintro e w2 ⟨rfl, rfl⟩
        rw [Nx.out]
        go_wp2_with fail
        refine (refLess_any x 0 hx (show Wd 0 by unfold Wd; omega) _).mono ?_
        rintro e w2 ⟨rfl, rfl⟩
        rw [Hl.out]
        go_wp2_with fail
        refine (refLess_any 4607182418800017408 x one_wd hx _).mono ?_
        rintro e w2 ⟨rfl, rfl⟩
        rw [Hm.out]
        go_wp2_with fail
        go_ret
        exact ⟨by rw [fin.out]; rfl, rfl⟩
      · have c2' : lessB 4607182418800017408 x = false := by simpa using c2
        have fin : Hid (clampW x = x) := by
          show _ = _
          refine clampW_self ?_
          unfold lessB L at c2'
          have c := of_decide_eq_false c2'
          unfold one
          simp only [hp, if_true] at c
          simp at c; omega
        have Hl := Lib.hid c1'
        have Hm := Lib.hid c2'
        clear nx c1 c1' c2 c2' hn h hp
        go_enter Tryd.func28, Tryd.ntmps28
        go_wp2_with fail
        refine (refNot_any x hx _).mono ?_
        rintro e w2 ⟨rfl, rfl⟩
        rw [Nx.out]
        go_wp2_with fail
        refine (refLess_any x 0 hx (show Wd 0 by unfold Wd; omega) _).mono ?_
        rintro e w2 ⟨rfl, rfl⟩
        rw [Hl.out]
        go_wp2_with fail
        refine (refLess_any 4607182418800017408 x one_wd hx _).mono ?_
        rintro e w2 ⟨rfl, rfl⟩
        rw [Hm.out]
        go_wp2_with fail
        go_ret
        exact ⟨by rw [fin.out]; rfl, rfl⟩
  · have Nx := Lib.hid nx
    have fin : Hid (clampW x = 0) := by show _ = _; unfold clampW; rw [nx]; rfl
    clear nx h
    go_enter Tryd.func28, Tryd.ntmps28
    go_wp2_with fail
    refine (refNot_any x hx _).mono ?_
    rintro e w2 ⟨rfl, rfl⟩
    rw [Nx.out]
    go_wp2_with fail
    go_ret
    exact ⟨by rw [fin.out]; rfl, rfl⟩

/-- bit by bit alike (those that are none are alike) -/
def bitsB (a b : Nat) : Bool := (isNot a && isNot b) || decide (a = b)
theorem bits_any (a b : Nat) (ha : Hid (Wd a)) (hb : Hid (Wd b)) (w : World) :
    Calls Tryd.prog 26 #[.float .f64 a, .float .f64 b] w fun e w' => e = .returned (.bool (bitsB a b)) ∧ w = w' := by
  have g : ((a : Int) == (b : Int)) = decide (a = b) := by rw [Bool.eq_iff_iff]; simp; omega
  cases na : isNot a
  · have fin : Hid (bitsB a b = decide (a = b)) := by show _ = _; unfold bitsB; rw [na]; simp
    have Na := Lib.hid na
    clear na
    go_enter Tryd.func26, Tryd.ntmps26
    go_wp2_with fail
    refine (refNot_any a ha _).mono ?_
    rintro e w2 ⟨rfl, rfl⟩
    rw [Na.out]
    go_wp2_with fail
    go_ret
    exact ⟨by rw [fin.out]; rfl, rfl⟩
  · have Na := Lib.hid na
    cases nb : isNot b
    · have fin : Hid (bitsB a b = decide (a = b)) := by show _ = _; unfold bitsB; rw [nb]; simp
      have Nb := Lib.hid nb
      clear na nb
      go_enter Tryd.func26, Tryd.ntmps26
      go_wp2_with fail
      refine (refNot_any a ha _).mono ?_
      rintro e w2 ⟨rfl, rfl⟩
      rw [Na.out]
      go_wp2_with fail
      refine (refNot_any b hb _).mono ?_
      rintro e w2 ⟨rfl, rfl⟩
      rw [Nb.out]
      go_wp2_with fail
      go_ret
      exact ⟨by rw [fin.out]; rfl, rfl⟩
    · have fin : Hid (bitsB a b = true) := by show _ = _; unfold bitsB; rw [na, nb]; rfl
      have Nb := Lib.hid nb
      clear na nb
      go_enter Tryd.func26, Tryd.ntmps26
      go_wp2_with fail
      refine (refNot_any a ha _).mono ?_
      rintro e w2 ⟨rfl, rfl⟩
      rw [Na.out]
      go_wp2_with fail
      refine (refNot_any b hb _).mono ?_
      rintro e w2 ⟨rfl, rfl⟩
      rw [Nb.out]
      go_wp2_with fail
      go_ret
      exact ⟨by rw [fin.out]; rfl, rfl⟩
end Go.Proofs.YtdgphhpeebieaaaDoor
