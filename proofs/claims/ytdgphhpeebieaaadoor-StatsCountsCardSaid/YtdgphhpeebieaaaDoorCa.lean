/-
  WALK: the fixed fact of layer 4 (awake).
-/
import Derived.Test.YtdgphhpeebieaaaDoorAd
import Derived.Test.YtdgphhpeebieaaaDoorTx
namespace Go.Proofs.YtdgphhpeebieaaaDoor
open Go.RowKit FP Hx
set_option linter.unusedVariables false

theorem adm_yes : admitW 4602678819172646912 4503599627370495 = true := by decide +kernel
theorem adm_no : admitW 4602678819172646912 4503599627370496 = false := by decide +kernel
theorem text_one : textL 4607182418800017408 = [51, 102, 102, 48, 48, 48, 48, 48, 48, 48, 48, 48, 48, 48, 48, 48] := by decide +kernel
theorem wd_c (n : Nat) (h : n < 18446744073709551616) : Hid (Wd n) := h

theorem cawake_any (w : World) (hT : Hid (Tab16 w)) :
    Calls Tryd.prog 13 #[] w fun e w' => e = .returned (.bool true) ∧ Below w.heap.size w w' := by
  go_enter Tryd.func13, Tryd.ntmps13
  go_wp2_with fail
  refine (admit_any _ 9223372036854775807 4503599627370495 (wd_c _ (by omega)) rfl (wd_c _ (by omega)) _).mono ?_
  rintro e w' ⟨rfl, rfl⟩
  rw [adm_yes]
  go_wp2_with fail
  refine (admit_any _ 9223372036854775808 4503599627370496 (wd_c _ (by omega)) rfl (wd_c _ (by omega)) _).mono ?_
  rintro e w' ⟨rfl, rfl⟩
  rw [adm_no]
  go_wp2_with fail
  refine (text_any _ (wd_c _ (by omega)) _ hT).mono ?_
  rintro e w' ⟨rfl, hb⟩
  have Hb := Lib.hid hb
  clear hb
  rw [text_one]
  go_wp2_with fail
  go_ret
  exact ⟨rfl, Hb.out⟩
end Go.Proofs.YtdgphhpeebieaaaDoor
