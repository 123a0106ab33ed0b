/-
  WALKS: the document's Text of a number; Cut.
-/
import Derived.Test.YtdgphhpeebieaaaDoorRf
import Derived.Test.YtdgphhpeebieaaaDoorTx
import Derived.Test.YtdgphhpeebieaaaDoorHy
namespace Go.Proofs.YtdgphhpeebieaaaDoor
open Go.RowKit FP Hx
set_option linter.unusedVariables false

theorem rtext_len {x : Nat} (h : isNot x = false) (h1 : x ≠ 9218868437227405312) (h2 : x ≠ 18442240474082181120) : textL x = List.replicate (16 - (hexL x).length) 48 ++ hexL x := by
  unfold textL; rw [h, if_neg h1, if_neg h2]; rfl
set_option maxHeartbeats 1600000 in
set_option maxRecDepth 100000 in
theorem refText_num (x : Nat) (hx : Hid (Wd x)) (hn : Hid (isNot x = false)) (h1 : Hid (x ≠ 9218868437227405312)) (h2 : Hid (x ≠ 18442240474082181120)) (w : World) :
    Calls Tryd.prog 39 #[.float .f64 x] w fun e w' => e = .returned (.string ⟨(textL x).toArray⟩) ∧ Below w.heap.size w w' := by
  obtain ⟨m, hm⟩ : ∃ m : Nat, decide (9223372036854775808 ≤ (x : Int)) = decide (m = 1) := ⟨if 9223372036854775808 ≤ (x : Int) then 1 else 0, by split <;> simp [*]⟩
  obtain ⟨e, he⟩ : ∃ e : Nat, e = x / 4503599627370496 % 2048 := ⟨_, rfl⟩
  obtain ⟨f, hf⟩ : ∃ f : Nat, f = x % 4503599627370496 := ⟨_, rfl⟩
  have g1 : ((e : Int) == 2047) = false := by
    have a1 := isNot_false hn.out
    have a2 := h1.out
    have a3 := h2.out
    have a4 := hx.out
    unfold Wd at a4
    exact beq_eq_false_iff_ne.2 (by omega)
  have Hm := Lib.hid hm; have He := Lib.hid he; have Hf := Lib.hid hf
  clear hm he hf
  go_enter Tryd.func39, Tryd.ntmps39
  go_wp2_with fail
  refine (refBits_any x m e f hx Hm He Hf _).mono ?_
  rintro en w' ⟨rfl, rfl⟩
  go_wp2_with fail
  refine (refNot_any x hx _).mono ?_
  rintro en w' ⟨rfl, rfl⟩
  rw [hn.out]
  go_wp2_with fail
  go_loopw [6, 7, 8] (fun s6 s7 s8 wr => ∃ (i b : Nat) (acc : List UInt8), i ≤ 16 ∧ Hid (b = x / 16 ^ i) ∧ Hid (acc.length = i ∧ (∀ c ∈ acc, HexC c) ∧ hexVal acc = x % 16 ^ i) ∧ s6 = .int .u64 b ∧ s7 = .string ⟨acc.toArray⟩ ∧ s8 = .int .i64 i ∧ Below w.heap.size w wr) (fun _ _ s8 _ => 16 - (intOf s8).toNat)
  case atStart => exact ⟨0, x, [], Nat.zero_le _, by show _ = _; simp, ⟨rfl, by simp, by simp [hexVal, Nat.mod_one]⟩, rfl, rfl, rfl, Below.refl _ _⟩
  case round =>
    obtain ⟨i, b, acc, hi, hb, hacc, rfl, rfl, rfl, hw⟩ := hrel
    have Hw := Lib.hid hw
    clear hw
    by_cases hlt : i < 16
    · obtain ⟨bI, hbI⟩ : ∃ bI : Int, bI = (b : Int) := ⟨_, rfl⟩
      obtain ⟨dI, hdI⟩ : ∃ dI : Int, dI = bI % 16 := ⟨_, rfl⟩
      have e1 : bI.tmod 16 = dI := by rw [Int.tmod_eq_emod_of_nonneg (by omega)]; exact hdI.symm
      have d0 : 0 ≤ dI := by omega
      have d1 : dI < 16 := by omega
      rw [← hbI]
      have HbI := Lib.hid hbI
      have HdI := Lib.hid hdI
      clear hbI hdI
      by_cases hd : dI < 10
      · have hc : (dig (b % 16)).toNat = 48 + b % 16 := by
          have h3 := HdI.out
          have h4 := HbI.out
          rw [dig_low (by omega)]
          first | rw [if_pos (by omega)] | rw [if_neg (by omega)]
        have hcI : 48 + dI = ((dig (b % 16)).toNat : Int) := by
          have h3 := HdI.out
          have h4 := HbI.out
          omega
        have hcv : (convert 82 9 (.slice (some ⟨wr.heap.size, 0, none⟩) 1 1)).run Tryd.prog (wr.alloc (.cells #[.int .u8 (48 + dI)] 5)) = .ok (.string ⟨#[dig (b % 16)]⟩) (wr.alloc (.cells #[.int .u8 (48 + dI)] 5)) := by
          have h5 := Blk.new wr 5 #[.int .u8 (48 + dI)]
          exact run_convert_bytes_back (P := Tryd.prog) _ 82 9 5 ⟨wr.heap.size, 0, none⟩ 1 [dig (b % 16)] Tryd.underlying82 Tryd.underlying5 Tryd.underlying9 (fun j hj => by
            have h6 : j = 0 := by simpa using hj
            subst h6
            have h7 := h5.cell 0
            rw [hcI] at h7 ⊢
            exact h7)
        have HC := Lib.hid hcv
        clear hcv hc hcI
        go_wp2_with fail
        rw [HC.out]
        obtain ⟨z, hz⟩ : ∃ z, z = dig (b % 16) := ⟨_, rfl⟩
        rw [← hz]
        have HZ := Lib.hid hz
        clear hz HC
        have hno : ¬ 9223372036854775807 < 1 + acc.length := by have := hacc.out.1; omega
        go_wp2_with fail
        go_roundw
        case rel =>
          have h3 := HdI.out
          have h4 := HbI.out
          obtain ⟨q1, q2⟩ := low_step hb.out hacc.out
          refine ⟨i + 1, b / 16, z :: acc, by omega, q1, by rw [HZ.out]; exact q2, congrArg (Value.int .u64) ?_, ?_, by go_num, Hw.out.alloc Hw.out.size _⟩
          · have h7 : bI.tdiv 16 = ((b / 16 : Nat) : Int) := by rw [h4, Int.tdiv_eq_ediv_of_nonneg (by omega)]; rfl
            rw [h7, IntKind.wrap_u64]
            have h8 := hx.out
            unfold Wd at h8
            have h9 : b ≤ x := by rw [hb.out]; exact Nat.div_le_self _ _
            omega
          · have h10 := str_append [z] acc
            simp only [List.cons_append, List.nil_append] at h10
            exact congrArg Value.string h10
        case measure => simp [intOf]; omega
      · have hc : (dig (b % 16)).toNat = 87 + b % 16 := by
          have h3 := HdI.out
          have h4 := HbI.out
          rw [dig_low (by omega)]
          first | rw [if_pos (by omega)] | rw [if_neg (by omega)]
        have hcI : 87 + dI = ((dig (b % 16)).toNat : Int) := by
          have h3 := HdI.out
          have h4 := HbI.out
          omega
        have hcv : (convert 82 9 (.slice (some ⟨wr.heap.size, 0, none⟩) 1 1)).run Tryd.prog (wr.alloc (.cells #[.int .u8 (87 + dI)] 5)) = .ok (.string ⟨#[dig (b % 16)]⟩) (wr.alloc (.cells #[.int .u8 (87 + dI)] 5)) := by
          have h5 := Blk.new wr 5 #[.int .u8 (87 + dI)]
          exact run_convert_bytes_back (P := Tryd.prog) _ 82 9 5 ⟨wr.heap.size, 0, none⟩ 1 [dig (b % 16)] Tryd.underlying82 Tryd.underlying5 Tryd.underlying9 (fun j hj => by
            have h6 : j = 0 := by simpa using hj
            subst h6
            have h7 := h5.cell 0
            rw [hcI] at h7 ⊢
            exact h7)
        have HC := Lib.hid hcv
        clear hcv hc hcI
        go_wp2_with fail
        rw [HC.out]
        obtain ⟨z, hz⟩ : ∃ z, z = dig (b % 16) := ⟨_, rfl⟩
        rw [← hz]
        have HZ := Lib.hid hz
        clear hz HC
        have hno : ¬ 9223372036854775807 < 1 + acc.length := by have := hacc.out.1; omega
        go_wp2_with fail
        go_roundw
        case rel =>
          have h3 := HdI.out
          have h4 := HbI.out
          obtain ⟨q1, q2⟩ := low_step hb.out hacc.out
          refine ⟨i + 1, b / 16, z :: acc, by omega, q1, by rw [HZ.out]; exact q2, congrArg (Value.int .u64) ?_, ?_, by go_num, Hw.out.alloc Hw.out.size _⟩
          · have h7 : bI.tdiv 16 = ((b / 16 : Nat) : Int) := by rw [h4, Int.tdiv_eq_ediv_of_nonneg (by omega)]; rfl
            rw [h7, IntKind.wrap_u64]
            have h8 := hx.out
            unfold Wd at h8
            have h9 : b ≤ x := by rw [hb.out]; exact Nat.div_le_self _ _
            omega
          · have h10 := str_append [z] acc
            simp only [List.cons_append, List.nil_append] at h10
            exact congrArg Value.string h10
        case measure => simp [intOf]; omega
    · obtain rfl : i = 16 := by omega
      have fin : Hid (textL x = acc) := by
        show _ = _
        obtain ⟨q1, q2, q3⟩ := hacc.out
        obtain ⟨p1, p2⟩ := hex16_good hx.out
        rw [rtext_len hn.out h1.out h2.out]
        refine hexVal_inj ?_ p1.2.2 q2 ?_
        · have := hexL_length x; rw [q1]; simp; omega
        · rw [p2, q3, Nat.mod_eq_of_lt]; have h8 := hx.out; unfold Wd at h8; omega
      go_wp2_with fail
      go_ret
      exact ⟨by rw [fin.out]; rfl, Hw.out⟩

theorem refText_not (x : Nat) (hx : Hid (Wd x)) (hn : Hid (isNot x = true)) (w : World) :
    Calls Tryd.prog 39 #[.float .f64 x] w fun e w' => e = .returned (.string ⟨(textL x).toArray⟩) ∧ Below w.heap.size w w' := by
  obtain ⟨m, hm⟩ : ∃ m : Nat, decide (9223372036854775808 ≤ (x : Int)) = decide (m = 1) := ⟨if 9223372036854775808 ≤ (x : Int) then 1 else 0, by split <;> simp [*]⟩
  obtain ⟨e, he⟩ : ∃ e : Nat, e = x / 4503599627370496 % 2048 := ⟨_, rfl⟩
  obtain ⟨f, hf⟩ : ∃ f : Nat, f = x % 4503599627370496 := ⟨_, rfl⟩
  have Hm := Lib.hid hm; have He := Lib.hid he; have Hf := Lib.hid hf
  have fin : Hid (textL x = [110, 111, 110, 101]) := by show _ = _; unfold textL; rw [hn.out]; rfl
  clear hm he hf
  go_enter Tryd.func39, Tryd.ntmps39
  go_wp2_with fail
  refine (refBits_any x m e f hx Hm He Hf _).mono ?_
  rintro en w' ⟨rfl, rfl⟩
  go_wp2_with fail
  refine (refNot_any x hx _).mono ?_
  rintro en w' ⟨rfl, rfl⟩
  rw [hn.out]
  go_wp2_with fail
  go_ret
  exact ⟨by rw [fin.out]; rfl, Below.refl _ _⟩

set_option maxHeartbeats 1600000 in
theorem refText_inf (x m : Nat) (hx : Hid (Wd x)) (hn : Hid (isNot x = false)) (hm : Hid (decide (9223372036854775808 ≤ (x : Int)) = decide (m = 1))) (h1 : Hid (2047 = x / 4503599627370496 % 2048)) (w : World) :
    Calls Tryd.prog 39 #[.float .f64 x] w fun e w' => e = .returned (.string ⟨(if m = 1 then [45, 97, 108, 108] else [97, 108, 108] : List UInt8).toArray⟩) ∧ Below w.heap.size w w' := by
  obtain ⟨f, hf⟩ : ∃ f : Nat, f = x % 4503599627370496 := ⟨_, rfl⟩
  obtain ⟨e, he⟩ : ∃ e : Nat, e = 2047 := ⟨_, rfl⟩
  have he' : e = x / 4503599627370496 % 2048 := by rw [he]; exact h1.out
  have He := Lib.hid he'; have Hf := Lib.hid hf
  have g1 : ((e : Int) == 2047) = true := by rw [he]; rfl
  clear hf he he'
  by_cases hm1 : m = 1
  · have d1 : decide (m = 1) = true := decide_eq_true hm1
    rw [if_pos hm1]
    clear hm1
    go_enter Tryd.func39, Tryd.ntmps39
    go_wp2_with fail
    refine (refBits_any x m e f hx hm He Hf _).mono ?_
    rintro en w' ⟨rfl, rfl⟩
    rw [d1]
    go_wp2_with fail
    refine (refNot_any x hx _).mono ?_
    rintro en w' ⟨rfl, rfl⟩
    rw [hn.out]
    go_wp2_with fail
    go_ret
    exact ⟨rfl, Below.refl _ _⟩
  · have d1 : decide (m = 1) = false := decide_eq_false hm1
    rw [if_neg hm1]
    clear hm1
    go_enter Tryd.func39, Tryd.ntmps39
    go_wp2_with fail
    refine (refBits_any x m e f hx hm He Hf _).mono ?_
    rintro en w' ⟨rfl, rfl⟩
    rw [d1]
    go_wp2_with fail
    refine (refNot_any x hx _).mono ?_
    rintro en w' ⟨rfl, rfl⟩
    rw [hn.out]
    go_wp2_with fail
    go_ret
    exact ⟨rfl, Below.refl _ _⟩

theorem refText_any (x : Nat) (hx : Hid (Wd x)) (w : World) :
    Calls Tryd.prog 39 #[.float .f64 x] w fun e w' => e = .returned (.string ⟨(textL x).toArray⟩) ∧ Below w.heap.size w w' := by
  cases hn : isNot x
  · by_cases c1 : x = 9218868437227405312
    · have h := refText_inf x 0 hx hn (by show _ = _; rw [c1]; rfl) (by show _ = _; rw [c1]) w
      have fin : textL x = [97, 108, 108] := by unfold textL; rw [hn, if_pos c1]; rfl
      rw [fin]; exact h
    · by_cases c2 : x = 18442240474082181120
      · have h := refText_inf x 1 hx hn (by show _ = _; rw [c2]; rfl) (by show _ = _; rw [c2]) w
        have fin : textL x = [45, 97, 108, 108] := by unfold textL; rw [hn, if_neg c1, if_pos c2]; rfl
        rw [fin]; exact h
      · exact refText_num x hx hn c1 c2 w
  · exact refText_not x hx hn w

end Go.Proofs.YtdgphhpeebieaaaDoor
