/-
  PLAIN LAW: the ten words of a Stats' text: joined by blanks they are split again; decimal digits are read back.
-/
import Derived.Test.YtdgphhpeebieaaaDoorSc
import Derived.Test.YtdgphhpeebieaaaDoorPc
import Derived.Test.YtdgphhpeebieaaaDoorRx
import Derived.Test.YtdgphhpeebieaaaDoorShS
import Derived.Test.YtdgphhpeebieaaaDoorShU
import Derived.Lib.SplitLaws
import Derived.Lib.ParseIntBCases
namespace Go.Proofs.YtdgphhpeebieaaaDoor
open Go.RowKit FP Hx
set_option linter.unusedVariables false

theorem index_at (w t : List UInt8) (h : (32 : UInt8) ∉ w) : Lib.index (w ++ 32 :: t) [32] = (w.length : Int) := by
  induction w with
  | nil => rw [List.nil_append, Lib.index]; simp [List.isPrefixOf]
  | cons b l ih =>
    have hb : b ≠ 32 := fun e => h (by simp [e])
    have hl : (32 : UInt8) ∉ l := fun e => h (List.mem_cons_of_mem _ e)
    have hp : ([32] : List UInt8).isPrefixOf (b :: (l ++ 32 :: t)) = false := by simp [List.isPrefixOf, Ne.symm hb]
    rw [List.cons_append, Lib.index, hp, ih hl]
    have : ¬ ((l.length : Int) == -1) = true := fun e => by have := beq_iff_eq.1 e; omega
    rw [if_neg (by decide), if_neg this]
    simp
theorem joinTail_cons (w : List UInt8) (ws : List (List UInt8)) : Lib.joinTail [32] (w :: ws) = 32 :: (w ++ Lib.joinTail [32] ws) := by
  simp [Lib.joinTail]
theorem splitK_join : ∀ (ws : List (List UInt8)) (w : List UInt8), (32 : UInt8) ∉ w → (∀ x ∈ ws, (32 : UInt8) ∉ x) → Lib.splitK [32] 0 ws.length (Lib.join (w :: ws) [32]) = w :: ws
  | [], w, h, _ => by rw [Lib.join_one]; rfl
  | v :: ws, w, h, hs => by
    have hj : Lib.join (w :: v :: ws) [32] = w ++ 32 :: Lib.join (v :: ws) [32] := by
      rw [Lib.join_cons, joinTail_cons, Lib.join_cons]
    rw [hj]
    show Lib.splitK [32] 0 (ws.length + 1) _ = _
    unfold Lib.splitK
    rw [index_at w _ h, if_neg (fun e => by have := beq_iff_eq.1 e; omega)]
    have h1 : ((w.length : Int)).toNat + 0 = w.length := by omega
    have h2 : ((w.length : Int)).toNat + [(32 : UInt8)].length = w.length + 1 := by simp
    rw [h1, h2, List.take_left]
    have h3 : (w ++ 32 :: Lib.join (v :: ws) [32]).drop (w.length + 1) = Lib.join (v :: ws) [32] := by
      rw [← List.drop_drop, List.drop_left]; rfl
    rw [h3, splitK_join ws v (hs v (by simp)) (fun x hx => hs x (by simp [hx]))]
theorem count_join : ∀ (ws : List (List UInt8)) (w : List UInt8), (32 : UInt8) ∉ w → (∀ x ∈ ws, (32 : UInt8) ∉ x) → Lib.count (Lib.join (w :: ws) [32]) [32] = ws.length
  | [], w, h, _ => by rw [Lib.count_one, Lib.join_one, List.count_eq_zero.2 h]; rfl
  | v :: ws, w, h, hs => by
    have hj : Lib.join (w :: v :: ws) [32] = w ++ 32 :: Lib.join (v :: ws) [32] := by
      rw [Lib.join_cons, joinTail_cons, Lib.join_cons]
    have ih := count_join ws v (hs v (by simp)) (fun x hx => hs x (by simp [hx]))
    rw [Lib.count_one] at ih
    rw [Lib.count_one, hj, List.count_append, List.count_cons_self, ih, List.count_eq_zero.2 h]
    simp

/-- the words that Split makes of s -/
def wordsOf (s : ByteArray) : List ByteArray := Lib.splitB ⟨#[32]⟩ 0 (Lib.countB s ⟨#[32]⟩) s
theorem wordsOf_len (s : ByteArray) : (wordsOf s).length = Lib.countB s ⟨#[32]⟩ + 1 := Lib.splitB_all ⟨#[32]⟩ (by decide) 0 _ s rfl
theorem wordsOf_join {s : ByteArray} {w : List UInt8} {ws : List (List UInt8)} (h : s.data.toList = Lib.join (w :: ws) [32]) (hw : (32 : UInt8) ∉ w) (hs : ∀ x ∈ ws, (32 : UInt8) ∉ x) :
    (wordsOf s).map (·.data.toList) = w :: ws ∧ Lib.countB s ⟨#[32]⟩ = ws.length := by
  have hc : Lib.countB s ⟨#[32]⟩ = ws.length := by
    show Lib.count s.data.toList [32] = _
    rw [h]; exact count_join ws w hw hs
  refine ⟨?_, hc⟩
  unfold wordsOf
  rw [Lib.splitB_data, hc, h]
  exact splitK_join ws w hw hs

theorem blank_dec (n : Nat) : (32 : UInt8) ∉ Lib.decDigits n := by
  induction n using Nat.strongRecOn with
  | _ n ih =>
    intro h
    rw [Lib.decDigits] at h
    have hd : ∀ d, d < 10 → (32 : UInt8) ≠ UInt8.ofNat (48 + d) := by
      intro d hd e
      have := congrArg UInt8.toNat e
      simp at this
      omega
    by_cases c : n < 10
    · rw [dif_pos c] at h
      rw [List.mem_singleton] at h
      exact hd n c h
    · rw [dif_neg c] at h
      rcases List.mem_append.1 h with h1 | h1
      · exact ih (n / 10) (by omega) h1
      · rw [List.mem_singleton] at h1
        exact hd (n % 10) (Nat.mod_lt _ (by omega)) h1
theorem hexc_blank {c : UInt8} (h : HexC c) : c ≠ 32 := by
  intro e; subst e; unfold HexC at h; revert h; decide
theorem blank_text (x : Nat) (hx : Wd x) : (32 : UInt8) ∉ textL x := by
  rcases text_four x with ⟨_, h⟩ | ⟨_, h⟩ | ⟨_, h⟩ | ⟨_, h, _⟩
  · rw [h]; decide
  · rw [h]; decide
  · rw [h]; decide
  · rw [h]
    intro h1
    exact hexc_blank ((hex16_good hx).1.2.2 _ h1) rfl
theorem blank_rate (b a : Nat) (h : Wd (ratioW b a)) : (32 : UInt8) ∉ rateT b a := by
  unfold rateT
  split
  · decide
  · exact blank_text _ h

/-- how decimal digits are read: the digits behind are read on from there -/
theorem pu_cons (acc : Nat) (c : UInt8) (r : List UInt8) : Lib.parseUint10 acc (c :: r) = if 48 ≤ c.toNat ∧ c.toNat ≤ 57 then (if 1844674407370955162 ≤ acc then .range else if 18446744073709551616 ≤ acc * 10 + (c.toNat - 48) then .range else Lib.parseUint10 (acc * 10 + (c.toNat - 48)) r) else Lib.parseUint10 acc [c] := by
  by_cases h : 48 ≤ c.toNat ∧ c.toNat ≤ 57
  · rw [if_pos h]; conv => lhs; unfold Lib.parseUint10
    rw [if_pos h]
  · rw [if_neg h]; unfold Lib.parseUint10; rw [if_neg h, if_neg h]
theorem pu_append : ∀ (l r : List UInt8) (acc u : Nat), Lib.parseUint10 acc l = .ok u → Lib.parseUint10 acc (l ++ r) = Lib.parseUint10 u r
  | [], r, acc, u, h => by
    unfold Lib.parseUint10 at h
    injection h with h
    rw [h]; rfl
  | c :: l, r, acc, u, h => by
    rw [List.cons_append]
    unfold Lib.parseUint10 at h
    rw [pu_cons]
    by_cases c1 : 48 ≤ c.toNat ∧ c.toNat ≤ 57
    · rw [if_pos c1] at h ⊢
      by_cases c2 : 1844674407370955162 ≤ acc
      · rw [if_pos c2] at h; cases h
      · rw [if_neg c2] at h ⊢
        by_cases c3 : 18446744073709551616 ≤ acc * 10 + (c.toNat - 48)
        · rw [if_pos c3] at h; cases h
        · rw [if_neg c3] at h ⊢
          have := pu_append l r _ u h
          rw [this]
    · rw [if_neg c1] at h; cases h
theorem pu_digit (v d : Nat) (hd : d < 10) (h : v * 10 + d < 18446744073709551616) : Lib.parseUint10 v [UInt8.ofNat (48 + d)] = .ok (v * 10 + d) := by
  have e : (UInt8.ofNat (48 + d)).toNat = 48 + d := by simp; omega
  unfold Lib.parseUint10
  rw [e, if_pos (by omega), if_neg (by omega), if_neg (by omega)]
  unfold Lib.parseUint10
  congr 1
  omega
theorem pu_dec (n : Nat) (hn : n < 18446744073709551616) : Lib.parseUint10 0 (Lib.decDigits n) = .ok n := by
  induction n using Nat.strongRecOn with
  | _ n ih =>
    rw [Lib.decDigits]
    by_cases c : n < 10
    · rw [dif_pos c]
      have := pu_digit 0 n c (by omega)
      rw [this]; congr 1; omega
    · rw [dif_neg c, pu_append _ _ _ _ (ih (n / 10) (by omega) (by omega)), pu_digit _ _ (Nat.mod_lt _ (by omega)) (by omega)]
      congr 1; omega
theorem dec_ne (n : Nat) : Lib.decDigits n ≠ [] := by
  intro h
  have := Lib.decDigits_length n
  rw [h] at this
  have h2 := Lib.nDigits_pos n
  simp at this
  omega
theorem puB_dec (n : Nat) (hn : n < 18446744073709551616) : Lib.parseUintB 64 (Lib.decDigits n) = .ok n := by
  rw [Lib.parseUintB_64]
  unfold Lib.parseMag
  rw [if_neg (dec_ne n), pu_dec n hn]
end Go.Proofs.YtdgphhpeebieaaaDoor
