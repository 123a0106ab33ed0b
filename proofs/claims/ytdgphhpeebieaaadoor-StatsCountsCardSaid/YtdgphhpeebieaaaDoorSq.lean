/-
  WALKS: strconv.ParseUint at base 10 of any text; the document's Digits.
-/
import Derived.Test.YtdgphhpeebieaaaDoorSp
import Derived.Test.YtdgphhpeebieaaaDoorTt
import Derived.Shelf.Pu.ErrVarParseUint
import Derived.Lib.SlBytesConst
import Derived.Lib.SmallJoins
import Derived.Lib.ItoaLen
namespace Go.Proofs.YtdgphhpeebieaaaDoor
open Go.RowKit FP Hx
set_option linter.unusedVariables false
set_option linter.unusedSimpArgs false

def P10 (l : List UInt8) (w : World) (e : Ending) (w' : World) : Prop :=
  ∃ (u : Nat) (err : Value), e = .returned (.tuple #[.int .u64 u, err]) ∧ Hid (u < 18446744073709551616) ∧ Hid (∀ v, Lib.parseUintB 64 l = .ok v → u = v) ∧ Below w.heap.size w w'
theorem pu10_any (s : ByteArray) (hs : s.size ≤ 281474976710656) (w : World) (hE : Hid (ErrV w)) :
    Calls Tryd.prog 59 #[.string s, .int .i64 10, .int .i64 64] w (P10 s.data.toList w) := by
  obtain ⟨⟨t1, p1, v1⟩, ⟨t2, p2, v2⟩⟩ := hE.out
  rcases h : Lib.parseUintB 64 s.data.toList with u | _ | _
  · refine (Tryd.strconv_ParseUint_10_at64_ok s (by omega) u h w).mono ?_
    rintro e w' ⟨rfl, hw⟩
    refine ⟨u, .nilIface, rfl, ?_, (fun v hv => by rw [h] at hv; injection hv), ?_⟩
    · have := Lib.parseUintB_le h
      show _ < _; omega
    · rcases hw with rfl | rfl
      · exact Below.refl _ _
      · exact Go.Joins.below_bytesWorld _ w _ s (Nat.le_refl _)
  · refine (Any.strconv_ParseUint_10_at64_syntax Tryd.laysPu14 s hs h _ w v1 (.inr ⟨_, _, rfl⟩)).mono ?_
    rintro e w' ⟨N, rfl, _, _, hb⟩
    exact ⟨0, _, rfl, by show _ < _; omega, (fun v hv => by rw [h] at hv; cases hv), hb⟩
  · refine (Any.strconv_ParseUint_10_at64_range Tryd.laysPu14 s hs h _ w v2 (.inr ⟨_, _, rfl⟩)).mono ?_
    rintro e w' ⟨N, rfl, _, _, hb⟩
    exact ⟨18446744073709551615, _, rfl, by show _ < _; omega, (fun v hv => by rw [h] at hv; cases hv), hb⟩

theorem dec_step {n : Nat} (h : ¬ n < 10) : Lib.decDigits n = Lib.decDigits (n / 10) ++ [UInt8.ofNat (48 + n % 10)] := by rw [Lib.decDigits, dif_neg h]
theorem dec_small {n : Nat} (h : n < 10) : Lib.decDigits n = [UInt8.ofNat (48 + n % 10)] := by rw [Lib.decDigits, dif_pos h, Nat.mod_eq_of_lt h]

set_option maxRecDepth 100000 in
theorem digits_any (n : Nat) (hn : Hid (n < 18446744073709551616)) (w : World) :
    Calls Tryd.prog 41 #[.int .u64 n] w fun e w' => e = .returned (.string ⟨(Lib.decDigits n).toArray⟩) ∧ Below w.heap.size w w' := by
  go_enter Tryd.func41, Tryd.ntmps41
  go_wp2_with fail
  go_loopw [0, 3, 4] (fun s0 s3 s4 wr => ∃ (m i : Nat) (t : List UInt8), s0 = .int .u64 m ∧ s3 = .string ⟨t.toArray⟩ ∧ s4 = .int .i64 i ∧ i ≤ 20 ∧ Hid (m < 10 ^ (20 - i) ∧ m < 18446744073709551616 ∧ (i = 0 → m = n ∧ t = []) ∧ (0 < i → Lib.decDigits n = (if m = 0 then [] else Lib.decDigits m) ++ t)) ∧ Hid (Below w.heap.size w wr)) (fun _ _ s4 _ => 21 - (intOf s4).toNat)
  case atStart => exact ⟨n, 0, [], rfl, rfl, rfl, by omega, ⟨by have := hn.out; omega, hn.out, fun _ => ⟨rfl, rfl⟩, fun h => absurd h (by omega)⟩, Below.refl _ _⟩
  case round =>
    obtain ⟨m, i, t, rfl, rfl, rfl, hi, hm, hb⟩ := hrel
    have hm64 := hm.out.2.1
    by_cases h0 : i = 0
    · subst h0
      have t1 : (((0 : Nat) : Int) == 0) = true := rfl
      obtain ⟨e1, e2⟩ := hm.out.2.2.1 rfl
      have E1 := Lib.hid e1
      have E2 := Lib.hid e2
      clear e1 e2
      have hno : ¬ 9223372036854775807 < 1 + t.length := by rw [E2.out]; simp
      have hmI : 0 ≤ (m : Int) % 10 ∧ (m : Int) % 10 < 10 := by omega
      have hcv : (convert 82 9 (.slice (some ⟨wr.heap.size, 0, none⟩) 1 1)).run Tryd.prog (wr.alloc (.cells #[.int .u8 (48 + (m : Int) % 10)] 5)) = .ok (.string ⟨#[UInt8.ofNat (48 + m % 10)]⟩) (wr.alloc (.cells #[.int .u8 (48 + (m : Int) % 10)] 5)) := by
        have h5 := Blk.new wr 5 #[.int .u8 (48 + (m : Int) % 10)]
        exact run_convert_bytes_back (P := Tryd.prog) _ 82 9 5 ⟨wr.heap.size, 0, none⟩ 1 [UInt8.ofNat (48 + m % 10)] Tryd.underlying82 Tryd.underlying5 Tryd.underlying9 (fun j hj => by
          have h6 : j = 0 := by simpa using hj
          subst h6
          have h7 := h5.cell 0
          have h8 : (48 + (m : Int) % 10) = ((UInt8.ofNat (48 + m % 10)).toNat : Int) := by simp; omega
          rw [h8] at h7 ⊢
          exact h7)
      have HC := Lib.hid hcv
      clear hcv
      go_wp2_with fail
      rw [HC.out]
      obtain ⟨z, hz⟩ : ∃ z, z = UInt8.ofNat (48 + m % 10) := ⟨_, rfl⟩
      rw [← hz]
      have HZ := Lib.hid hz
      clear hz HC
      go_wp2_with fail
      go_roundw
      case rel =>
        refine ⟨m / 10, 0 + 1, z :: t, congrArg (Value.int .u64) (by omega), ?_, by go_num, by omega, ⟨?_, by omega, fun h => absurd h (by omega), fun _ => ?_⟩, hb.out.alloc hb.out.size _⟩
        · have h10 := str_append [z] t
          simp only [List.cons_append, List.nil_append] at h10
          exact congrArg Value.string h10
        · have h1 := hm.out.1
          have h2 := hm.out.2.1
          have h3 : (10 : Nat) ^ (20 - (0 + 1)) = 10000000000000000000 := by decide
          rw [h3]; omega
        · rw [HZ.out, E2.out, ← E1.out]
          by_cases c : m < 10
          · rw [if_pos (by omega), dec_small c]; rfl
          · rw [if_neg (by omega), dec_step c]
      case measure => first | (simp [intOf]; done) | (simp [intOf]; omega)
    · have t1 : ((i : Int) == 0) = false := beq_eq_false_iff_ne.2 (by omega)
      have hlen : Hid (t.length ≤ 20) := by
        have e1 := congrArg List.length (hm.out.2.2.2 (by omega))
        rw [Lib.decDigits_length, List.length_append] at e1
        have := Lib.nDigits_le20 n hn.out
        show _ ≤ _; omega
      by_cases hz : m = 0
      · subst hz
        have fin : Hid (Lib.decDigits n = t) := by
          have e1 := hm.out.2.2.2 (by omega)
          rw [if_pos rfl] at e1; exact e1
        go_wp2_with fail
        go_ret
        exact ⟨by rw [fin.out]; rfl, hb.out⟩
      · have hm1 : 0 < m := by omega
        have hi20 : i < 20 := by
          have h1 := hm.out.1
          rcases Nat.lt_or_ge i 20 with h | h
          · exact h
          · rw [show 20 - i = 0 from by omega] at h1; omega
        have hno : ¬ 9223372036854775807 < 1 + t.length := by have := hlen.out; omega
        have hmI : 0 ≤ (m : Int) % 10 ∧ (m : Int) % 10 < 10 := by omega
        have hcv : (convert 82 9 (.slice (some ⟨wr.heap.size, 0, none⟩) 1 1)).run Tryd.prog (wr.alloc (.cells #[.int .u8 (48 + (m : Int) % 10)] 5)) = .ok (.string ⟨#[UInt8.ofNat (48 + m % 10)]⟩) (wr.alloc (.cells #[.int .u8 (48 + (m : Int) % 10)] 5)) := by
          have h5 := Blk.new wr 5 #[.int .u8 (48 + (m : Int) % 10)]
          exact run_convert_bytes_back (P := Tryd.prog) _ 82 9 5 ⟨wr.heap.size, 0, none⟩ 1 [UInt8.ofNat (48 + m % 10)] Tryd.underlying82 Tryd.underlying5 Tryd.underlying9 (fun j hj => by
            have h6 : j = 0 := by simpa using hj
            subst h6
            have h7 := h5.cell 0
            have h8 : (48 + (m : Int) % 10) = ((UInt8.ofNat (48 + m % 10)).toNat : Int) := by simp; omega
            rw [h8] at h7 ⊢
            exact h7)
        have HC := Lib.hid hcv
        clear hcv
        go_wp2_with fail
        rw [HC.out]
        obtain ⟨z, hz⟩ : ∃ z, z = UInt8.ofNat (48 + m % 10) := ⟨_, rfl⟩
        rw [← hz]
        have HZ := Lib.hid hz
        clear hz HC
        go_wp2_with fail
        go_roundw
        case rel =>
          refine ⟨m / 10, i + 1, z :: t, congrArg (Value.int .u64) (by omega), ?_, by go_num, by omega, ⟨?_, by omega, fun h => absurd h (by omega), fun _ => ?_⟩, hb.out.alloc hb.out.size _⟩
          · have h10 := str_append [z] t
            simp only [List.cons_append, List.nil_append] at h10
            exact congrArg Value.string h10
          · have h1 := hm.out.1
            have h3 : (10 : Nat) ^ (20 - i) = 10 ^ (20 - (i + 1)) * 10 := by rw [← Nat.pow_succ]; congr 1; omega
            rw [h3] at h1; omega
          · have e1 := hm.out.2.2.2 (by omega)
            rw [HZ.out, e1, if_neg (by omega)]
            by_cases c : m < 10
            · rw [if_pos (by omega), dec_small c]; rfl
            · rw [if_neg (by omega), dec_step c, List.append_assoc]; rfl
        case measure => first | (simp [intOf]; done) | (simp [intOf]; omega)
end Go.Proofs.YtdgphhpeebieaaaDoor
