/-
  WALK: strconv.ParseUint at base 16, 64 bits, of any string: a number and an error, or none; of one to sixteen small digits: their number.
-/
import Derived.Test.YtdgphhpeebieaaaDoorHy
import Derived.Test.YtdgphhpeebieaaaDoorFu
import Derived.Lib.ConvBytes
import Derived.Lib.Bytealg
import Derived.Lib.AtoiErrMem
namespace Go.Proofs.YtdgphhpeebieaaaDoor
open Go.RowKit Hx
set_option linter.unusedVariables false

theorem lower_any (b lc : Int) (h : Hid (bits .or .u8 b 32 = lc)) (w : World) :
    Calls Tryd.prog 84 #[.int .u8 b] w fun e w' => e = .returned (.int .u8 lc) ∧ w = w' := by
  go_enter Tryd.func84, Tryd.ntmps84
  go_wp2
  go_ret
  exact ⟨by rw [← h.out]; rfl, rfl⟩

abbrev errVal (n : Int) : Value := .iface 112 (.int .i64 n)
/-- how ParseUint at 16 ends -/
def PuPost (l : List UInt8) (w : World) (e : Ending) (w' : World) : Prop :=
  ∃ (n : Int) (err : Value), e = .returned (.tuple #[.int .u64 n, err]) ∧ Hid (0 ≤ n ∧ n ≤ 18446744073709551615) ∧ (err = .nilIface ∨ err = errVal 1 ∨ err = errVal 2) ∧ Hid (HexGood l → err = .nilIface ∧ n = hexVal l) ∧ Below w.heap.size w w'

theorem or32 (b : Nat) (h : b < 256) : ∃ lc : Nat, bits .or .u8 (b : Int) 32 = (lc : Int) ∧ lc < 256 ∧ (97 ≤ b → b ≤ 102 → lc = b) := by
  refine ⟨b ||| 32, ?_, Nat.or_lt_two_pow (n := 8) h (by omega), fun h1 h2 => ?_⟩
  · exact u8_or_nat b 32 h (by omega)
  · have : b = 97 ∨ b = 98 ∨ b = 99 ∨ b = 100 ∨ b = 101 ∨ b = 102 := by omega
    rcases this with h | h | h | h | h | h <;> subst h <;> decide

set_option maxRecDepth 100000 in
set_option maxHeartbeats 1600000 in
theorem pu16i (s : ByteArray) (hs : s.size ≤ 9223372036854775806) (w : World) (hne : s.size ≠ 0) :
    Calls Tryd.prog 72 #[.string s, .int .i64 16, .int .i64 64] w (PuPost s.data.toList w) := by
  have hemp : s.toList.isEmpty = false := by
    rw [← decide_eq_emptyBytes]
    exact decide_eq_false (fun h => hne (by rw [h]; rfl))
  have hcv := Lib.run_convert_string_bytes (P := Tryd.prog) w 9 82 5 s (u := .string) Tryd.underlying9 Tryd.underlying82 Tryd.underlying5
  have hB : ∀ j, j < s.size → (Lib.bytesWorld w 5 s).cell? ⟨w.heap.size, j, none⟩ = some (.int .u8 (s.data.toList.getD j 0).toNat) := fun j hj => Lib.bytesWorld_cell w 5 s j hj
  have hbl : Hid (Below w.heap.size w (Lib.bytesWorld w 5 s)) := Lib.bytesWorld_below w 5 s
  obtain ⟨W1, hW1⟩ : ∃ W1, W1 = Lib.bytesWorld w 5 s := ⟨_, rfl⟩
  rw [← hW1] at hcv hB hbl
  clear hW1
  obtain ⟨l, hL⟩ : ∃ l, l = s.data.toList := ⟨_, rfl⟩
  have hLn : l.length = s.size := by rw [hL, Lib.size_eq]
  rw [← hL] at hB ⊢
  clear hL
  have hmv : IntKind.u64.wrap (IntKind.u64.wrap 18446744073709551616 - 1) = 18446744073709551615 := by
    rw [IntKind.wrap_u64, IntKind.wrap_u64]
    decide
  go_enter Tryd.func72, Tryd.ntmps72
  go_wp2
  go_loop [12, 13, 101] (fun vu vn vi => ∃ (k : Nat) (a : Int), vu = .bool false ∧ vn = .int .u64 a ∧ vi = .int .i64 k ∧ k ≤ s.size ∧ Hid (0 ≤ a ∧ a < 18446744073709551616) ∧ Hid (HexGood l → a = hexVal (l.take k))) (fun _ _ vi => s.size - (intOf vi).toNat)
  case atStart => exact ⟨0, 0, rfl, rfl, rfl, Nat.zero_le _, ⟨by omega, by omega⟩, fun _ => rfl⟩
  case round =>
    obtain ⟨k, a, rfl, rfl, rfl, hk, ha, hG⟩ := hrel
    by_cases hkn : k < s.size
    · have hc := hB k hkn
      have hkl : k < l.length := by omega
      have hget : l.getD k 0 = l[k] := by simp [List.getD, List.getElem?_eq_getElem hkl]
      have hmem : l[k] ∈ l := List.getElem_mem hkl
      have htk : l.take (k + 1) = l.take k ++ [l[k]] := by rw [List.take_succ_eq_append_getElem hkl]
      rw [hget] at hc
      generalize l[k] = c at hc hmem htk
      have hc256 := c.toNat_lt
      have HG : Hid (HexGood l → HexC c) := fun h => h.2.2 c hmem
      have HT := Lib.hid htk
      have HL := Lib.hid hLn
      clear hB hget hmem htk hLn
      obtain ⟨cn, hcn⟩ : ∃ cn, cn = c.toNat := ⟨_, rfl⟩
      rw [← hcn] at hc hc256
      obtain ⟨lcn, l1, l2, l3⟩ := or32 cn (by omega)
      obtain ⟨b, hb⟩ : ∃ b : Int, b = (cn : Int) := ⟨_, rfl⟩
      obtain ⟨lc, hlc⟩ : ∃ lc : Int, lc = (lcn : Int) := ⟨_, rfl⟩
      rw [← hb] at hc l1
      rw [← hlc] at l1
      have b0 : 0 ≤ b := by omega
      have b1 : b ≤ 255 := by omega
      have lb0 : 0 ≤ lc := by omega
      have lb1 : lc ≤ 255 := by omega
      have g95 : Hid (HexGood l → b ≠ 95) := fun h => by have := HG.out h; unfold HexC at this; omega
      have a0 := ha.out.1
      have a1 := ha.out.2
      have Hl1 := Lib.hid l1
      by_cases cA : 48 ≤ b ∧ b ≤ 57
      · obtain ⟨cA1, cA2⟩ := cA
        by_cases cut : 1152921504606846976 ≤ a
        · have fin : Hid (HexGood l → False) := fun h => by
            have h1 := hG.out h
            have h2 := hexVal_lt (l.take k) (fun x hx => h.2.2 x (List.mem_of_mem_take hx))
            have h3 := h.2.1
            have h4 : (l.take k).length ≤ 15 := by have := HL.out; rw [List.length_take]; omega
            have h5 : 16 ^ (l.take k).length ≤ 16 ^ 15 := Nat.pow_le_pow_right (by omega) h4
            omega
          clear l1 l2 l3 hb hlc hcn
          go_wp2_with fail
          go_ret2
          exact ⟨_, _, rfl, ⟨by omega, by omega⟩, .inr (.inl rfl), fun h => (fin.out h).elim, hbl.out⟩
        · have Hn : Hid (HexGood l → a * 16 + (b - 48) = hexVal (l.take (k + 1))) := fun h => by
            have h1 := hG.out h
            have h2 := HG.out h
            rw [HT.out, hexVal_snoc]
            unfold HexC at h2
            unfold hexv
            rw [if_pos (by omega)]; omega
          clear l1 l2 l3 hb hlc hcn
          go_wp2_with fail
          go_round
          case rel => exact ⟨k + 1, a * 16 + (b - 48), rfl, rfl, by go_num, by omega, ⟨by omega, by omega⟩, Hn.out⟩
          case measure => simp [intOf]; omega
      · by_cases h95 : b = 95
        · have g95 : (b == 95) = true := beq_iff_eq.2 h95
          have fin : Hid (HexGood l → False) := fun h => by
            have h1 := HG.out h
            unfold HexC at h1
            omega
          have e127 : lc = 127 := by
            have h1 := Hl1.out
            rw [h95, show bits .or .u8 95 32 = 127 by decide +kernel] at h1
            exact h1.symm
          have cE : 97 ≤ lc := by omega
          have cE2 : ¬ lc ≤ 122 := by omega
          have cF : ¬ b ≤ 57 := by omega
          clear h95 e127 cA
          clear l1 l2 l3 hb hlc hcn
          go_wp2_with fail
          refine (lower_any b lc Hl1 _).mono ?_
          rintro e w' ⟨rfl, rfl⟩
          go_wp2_with fail
          refine (lower_any b lc Hl1 _).mono ?_
          rintro e w' ⟨rfl, rfl⟩
          go_wp2_with fail
          go_ret2
          exact ⟨_, _, rfl, ⟨by omega, by omega⟩, .inr (.inr rfl), fun h => (fin.out h).elim, hbl.out⟩
        · have g95 : (b == 95) = false := beq_eq_false_iff_ne.2 h95
          clear h95
          by_cases cF : b ≤ 57
          · have cF2 : ¬ 48 ≤ b := by omega
            clear cA
            by_cases cB : 97 ≤ lc ∧ lc ≤ 122
            · obtain ⟨cB1, cB2⟩ := cB
              by_cases cD : lc < 103
              · by_cases cut : 1152921504606846976 ≤ a
                · have fin : Hid (HexGood l → False) := fun h => by
                    have h1 := hG.out h
                    have h2 := hexVal_lt (l.take k) (fun x hx => h.2.2 x (List.mem_of_mem_take hx))
                    have h3 := h.2.1
                    have h4 : (l.take k).length ≤ 15 := by have := HL.out; rw [List.length_take]; omega
                    have h5 : 16 ^ (l.take k).length ≤ 16 ^ 15 := Nat.pow_le_pow_right (by omega) h4
                    omega
                  clear l1 l2 l3 hb hlc hcn
                  go_wp2_with fail
                  refine (lower_any b lc Hl1 _).mono ?_
                  rintro e w' ⟨rfl, rfl⟩
                  go_wp2_with fail
                  refine (lower_any b lc Hl1 _).mono ?_
                  rintro e w' ⟨rfl, rfl⟩
                  go_wp2_with fail
                  refine (lower_any b lc Hl1 _).mono ?_
                  rintro e w' ⟨rfl, rfl⟩
                  go_wp2_with fail
                  go_ret2
                  exact ⟨_, _, rfl, ⟨by omega, by omega⟩, .inr (.inl rfl), fun h => (fin.out h).elim, hbl.out⟩
                · have Hn : Hid (HexGood l → a * 16 + (lc - 97 + 10) = hexVal (l.take (k + 1))) := fun h => by
                    have h1 := hG.out h
                    have h2 := HG.out h
                    rw [HT.out, hexVal_snoc]
                    unfold HexC at h2
                    unfold hexv
                    have h3 : lcn = cn := l3 (by omega) (by omega)
                    rw [if_neg (by omega)]; omega
                  clear l1 l2 l3 hb hlc hcn
                  go_wp2_with fail
                  refine (lower_any b lc Hl1 _).mono ?_
                  rintro e w' ⟨rfl, rfl⟩
                  go_wp2_with fail
                  refine (lower_any b lc Hl1 _).mono ?_
                  rintro e w' ⟨rfl, rfl⟩
                  go_wp2_with fail
                  refine (lower_any b lc Hl1 _).mono ?_
                  rintro e w' ⟨rfl, rfl⟩
                  go_wp2_with fail
                  go_round
                  case rel => exact ⟨k + 1, a * 16 + (lc - 97 + 10), rfl, rfl, by go_num, by omega, ⟨by omega, by omega⟩, Hn.out⟩
                  case measure => simp [intOf]; omega
              · have fin : Hid (HexGood l → False) := fun h => by
                  have h1 := HG.out h
                  unfold HexC at h1
                  have h3 : lcn = cn := l3 (by omega) (by omega)
                  omega
                clear l1 l2 l3 hb hlc hcn
                go_wp2_with fail
                refine (lower_any b lc Hl1 _).mono ?_
                rintro e w' ⟨rfl, rfl⟩
                go_wp2_with fail
                refine (lower_any b lc Hl1 _).mono ?_
                rintro e w' ⟨rfl, rfl⟩
                go_wp2_with fail
                refine (lower_any b lc Hl1 _).mono ?_
                rintro e w' ⟨rfl, rfl⟩
                go_wp2_with fail
                go_ret2
                exact ⟨_, _, rfl, ⟨by omega, by omega⟩, .inr (.inr rfl), fun h => (fin.out h).elim, hbl.out⟩
            · have fin : Hid (HexGood l → False) := fun h => by
                have h1 := HG.out h
                unfold HexC at h1
                have h3 : lcn = cn := l3 (by omega) (by omega)
                omega
              by_cases cE : 97 ≤ lc
              · have cE2 : ¬ lc ≤ 122 := by omega
                clear cB
                clear l1 l2 l3 hb hlc hcn
                go_wp2_with fail
                refine (lower_any b lc Hl1 _).mono ?_
                rintro e w' ⟨rfl, rfl⟩
                go_wp2_with fail
                refine (lower_any b lc Hl1 _).mono ?_
                rintro e w' ⟨rfl, rfl⟩
                go_wp2_with fail
                go_ret2
                exact ⟨_, _, rfl, ⟨by omega, by omega⟩, .inr (.inr rfl), fun h => (fin.out h).elim, hbl.out⟩
              · clear cB
                clear l1 l2 l3 hb hlc hcn
                go_wp2_with fail
                refine (lower_any b lc Hl1 _).mono ?_
                rintro e w' ⟨rfl, rfl⟩
                go_wp2_with fail
                go_ret2
                exact ⟨_, _, rfl, ⟨by omega, by omega⟩, .inr (.inr rfl), fun h => (fin.out h).elim, hbl.out⟩
          · clear cA
            by_cases cB : 97 ≤ lc ∧ lc ≤ 122
            · obtain ⟨cB1, cB2⟩ := cB
              by_cases cD : lc < 103
              · by_cases cut : 1152921504606846976 ≤ a
                · have fin : Hid (HexGood l → False) := fun h => by
                    have h1 := hG.out h
                    have h2 := hexVal_lt (l.take k) (fun x hx => h.2.2 x (List.mem_of_mem_take hx))
                    have h3 := h.2.1
                    have h4 : (l.take k).length ≤ 15 := by have := HL.out; rw [List.length_take]; omega
                    have h5 : 16 ^ (l.take k).length ≤ 16 ^ 15 := Nat.pow_le_pow_right (by omega) h4
                    omega
                  clear l1 l2 l3 hb hlc hcn
                  go_wp2_with fail
                  refine (lower_any b lc Hl1 _).mono ?_
                  rintro e w' ⟨rfl, rfl⟩
                  go_wp2_with fail
                  refine (lower_any b lc Hl1 _).mono ?_
                  rintro e w' ⟨rfl, rfl⟩
                  go_wp2_with fail
                  refine (lower_any b lc Hl1 _).mono ?_
                  rintro e w' ⟨rfl, rfl⟩
                  go_wp2_with fail
                  go_ret2
                  exact ⟨_, _, rfl, ⟨by omega, by omega⟩, .inr (.inl rfl), fun h => (fin.out h).elim, hbl.out⟩
                · have Hn : Hid (HexGood l → a * 16 + (lc - 97 + 10) = hexVal (l.take (k + 1))) := fun h => by
                    have h1 := hG.out h
                    have h2 := HG.out h
                    rw [HT.out, hexVal_snoc]
                    unfold HexC at h2
                    unfold hexv
                    have h3 : lcn = cn := l3 (by omega) (by omega)
                    rw [if_neg (by omega)]; omega
                  clear l1 l2 l3 hb hlc hcn
                  go_wp2_with fail
                  refine (lower_any b lc Hl1 _).mono ?_
                  rintro e w' ⟨rfl, rfl⟩
                  go_wp2_with fail
                  refine (lower_any b lc Hl1 _).mono ?_
                  rintro e w' ⟨rfl, rfl⟩
                  go_wp2_with fail
                  refine (lower_any b lc Hl1 _).mono ?_
                  rintro e w' ⟨rfl, rfl⟩
                  go_wp2_with fail
                  go_round
                  case rel => exact ⟨k + 1, a * 16 + (lc - 97 + 10), rfl, rfl, by go_num, by omega, ⟨by omega, by omega⟩, Hn.out⟩
                  case measure => simp [intOf]; omega
              · have fin : Hid (HexGood l → False) := fun h => by
                  have h1 := HG.out h
                  unfold HexC at h1
                  have h3 : lcn = cn := l3 (by omega) (by omega)
                  omega
                clear l1 l2 l3 hb hlc hcn
                go_wp2_with fail
                refine (lower_any b lc Hl1 _).mono ?_
                rintro e w' ⟨rfl, rfl⟩
                go_wp2_with fail
                refine (lower_any b lc Hl1 _).mono ?_
                rintro e w' ⟨rfl, rfl⟩
                go_wp2_with fail
                refine (lower_any b lc Hl1 _).mono ?_
                rintro e w' ⟨rfl, rfl⟩
                go_wp2_with fail
                go_ret2
                exact ⟨_, _, rfl, ⟨by omega, by omega⟩, .inr (.inr rfl), fun h => (fin.out h).elim, hbl.out⟩
            · have fin : Hid (HexGood l → False) := fun h => by
                have h1 := HG.out h
                unfold HexC at h1
                have h3 : lcn = cn := l3 (by omega) (by omega)
                omega
              by_cases cE : 97 ≤ lc
              · have cE2 : ¬ lc ≤ 122 := by omega
                clear cB
                clear l1 l2 l3 hb hlc hcn
                go_wp2_with fail
                refine (lower_any b lc Hl1 _).mono ?_
                rintro e w' ⟨rfl, rfl⟩
                go_wp2_with fail
                refine (lower_any b lc Hl1 _).mono ?_
                rintro e w' ⟨rfl, rfl⟩
                go_wp2_with fail
                go_ret2
                exact ⟨_, _, rfl, ⟨by omega, by omega⟩, .inr (.inr rfl), fun h => (fin.out h).elim, hbl.out⟩
              · clear cB
                clear l1 l2 l3 hb hlc hcn
                go_wp2_with fail
                refine (lower_any b lc Hl1 _).mono ?_
                rintro e w' ⟨rfl, rfl⟩
                go_wp2_with fail
                go_ret2
                exact ⟨_, _, rfl, ⟨by omega, by omega⟩, .inr (.inr rfl), fun h => (fin.out h).elim, hbl.out⟩
    · have hk' : k = l.length := by omega
      have Hn : Hid (HexGood l → a = hexVal l) := fun h => by
        have h1 := hG.out h
        rw [List.take_of_length_le (by omega)] at h1
        exact h1
      clear hB hLn
      go_wp2_with fail
      go_ret2
      exact ⟨_, _, rfl, ⟨by have := ha.out; omega, by have := ha.out; omega⟩, .inl rfl, fun h => ⟨rfl, Hn.out h⟩, hbl.out⟩
end Go.Proofs.YtdgphhpeebieaaaDoor
