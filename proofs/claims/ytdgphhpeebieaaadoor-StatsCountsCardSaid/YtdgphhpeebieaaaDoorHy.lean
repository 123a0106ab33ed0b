/-
  PLAIN: a number out of hexadecimal digits. No Go in it.
-/
import Derived.Test.YtdgphhpeebieaaaDoorHx
namespace Go.Proofs.YtdgphhpeebieaaaDoor.Hx

/-! ### and back -/
def HexC (c : UInt8) : Prop := (48 ≤ c.toNat ∧ c.toNat ≤ 57) ∨ (97 ≤ c.toNat ∧ c.toNat ≤ 102)
def hexv (c : UInt8) : Nat := if c.toNat ≤ 57 then c.toNat - 48 else c.toNat - 87
def hexVal (l : List UInt8) : Nat := l.foldl (fun a c => a * 16 + hexv c) 0
/-- one to sixteen small digits -/
def HexGood (l : List UInt8) : Prop := 1 ≤ l.length ∧ l.length ≤ 16 ∧ ∀ c ∈ l, HexC c
theorem hexv_lt {c : UInt8} (h : HexC c) : hexv c < 16 := by unfold HexC at h; unfold hexv; split <;> omega
theorem fold_lt (l : List UInt8) : ∀ (a n : Nat), (∀ c ∈ l, HexC c) → a < 16 ^ n → l.foldl (fun a c => a * 16 + hexv c) a < 16 ^ (n + l.length) := by
  induction l with
  | nil => intro a n _ h; simpa using h
  | cons c l ih =>
    intro a n h ha
    rw [List.foldl_cons]
    have h1 := hexv_lt (h c (by simp))
    have h2 := ih (a * 16 + hexv c) (n + 1) (fun x hx => h x (by simp [hx])) (by rw [Nat.pow_succ]; omega)
    rw [show n + (c :: l).length = n + 1 + l.length by simp; omega]
    exact h2
theorem hexVal_lt (l : List UInt8) (h : ∀ c ∈ l, HexC c) : hexVal l < 16 ^ l.length := by
  have := fold_lt l 0 0 h (by simp)
  simpa [hexVal] using this
theorem hexVal_snoc (l : List UInt8) (c : UInt8) : hexVal (l ++ [c]) = hexVal l * 16 + hexv c := by
  unfold hexVal; rw [List.foldl_append]; rfl

theorem fold_eq (l : List UInt8) : ∀ a : Nat, l.foldl (fun a c => a * 16 + hexv c) a = a * 16 ^ l.length + hexVal l := by
  induction l with
  | nil => intro a; simp [hexVal]
  | cons c l ih =>
    intro a
    unfold hexVal
    rw [List.foldl_cons, List.foldl_cons, ih, ih (0 * 16 + hexv c), List.length_cons, Nat.pow_succ, Nat.add_mul, Nat.zero_mul, Nat.zero_add, Nat.mul_assoc, Nat.mul_comm 16 (16 ^ l.length)]
    omega
theorem hexVal_cons (c : UInt8) (l : List UInt8) : hexVal (c :: l) = hexv c * 16 ^ l.length + hexVal l := by
  refine (fold_eq l (0 * 16 + hexv c)).trans ?_
  rw [Nat.zero_mul, Nat.zero_add]
theorem dig_cases {P : Nat → UInt8 → Prop} (h0 : ∀ d : Fin 16, P d.val (dig d.val)) : ∀ d, d < 16 → P d (dig d) := fun d hd => h0 ⟨d, hd⟩
theorem hexv_dig {d : Nat} (h : d < 16) : hexv (dig d) = d := dig_cases (P := fun d c => hexv c = d) (by decide) d h
theorem hexc_dig {d : Nat} (h : d < 16) : HexC (dig d) := dig_cases (P := fun d c => HexC c) (by unfold HexC; decide) d h
theorem aux_val (f : Nat) : ∀ (U : Nat) (acc : List UInt8), 1 ≤ f → U < 16 ^ f → hexVal (aux f U acc) = U * 16 ^ acc.length + hexVal acc := by
  induction f with
  | zero => intro U acc h; omega
  | succ f ih =>
    intro U acc _ hU
    unfold aux
    by_cases c : U < 16
    · rw [if_pos c, hexVal_cons, hexv_dig c]
    · rw [if_neg c]
      have hf : 1 ≤ f := by
        rcases Nat.eq_zero_or_pos f with h | h
        · subst h; omega
        · exact h
      have hU' : U / 16 < 16 ^ f := by rw [Nat.pow_succ] at hU; omega
      rw [ih (U / 16) (dig (U % 16) :: acc) hf hU', hexVal_cons, hexv_dig (by omega), List.length_cons, Nat.pow_succ]
      generalize 16 ^ acc.length = p
      have h1 := Nat.div_add_mod U 16
      have h2 : U / 16 * (p * 16) + U % 16 * p = U * p := by
        rw [Nat.mul_comm p 16, ← Nat.mul_assoc, ← Nat.add_mul]
        congr 1
        omega
      omega
theorem aux_hexc (f : Nat) : ∀ (U : Nat) (acc : List UInt8), (∀ c ∈ acc, HexC c) → ∀ c ∈ aux f U acc, HexC c := by
  induction f with
  | zero => intro U acc h; exact h
  | succ f ih =>
    intro U acc h
    unfold aux
    by_cases c : U < 16
    · rw [if_pos c]
      intro x hx
      rcases List.mem_cons.1 hx with h1 | h1
      · rw [h1]; exact hexc_dig c
      · exact h x h1
    · rw [if_neg c]
      refine ih _ _ fun x hx => ?_
      rcases List.mem_cons.1 hx with h1 | h1
      · rw [h1]; exact hexc_dig (by omega)
      · exact h x h1
theorem hexVal_hexL {u : Nat} (h : u < 18446744073709551616) : hexVal (hexL u) = u := by
  have h1 := aux_val 16 u [] (by omega) (by omega)
  simpa [hexL, hexVal] using h1
theorem hexVal_zeros (n : Nat) (l : List UInt8) : hexVal (List.replicate n 48 ++ l) = hexVal l := by
  induction n with
  | zero => rfl
  | succ n ih =>
    rw [List.replicate_succ, List.cons_append, hexVal_cons, ih, show hexv 48 = 0 from rfl]
    omega
theorem hex16_good {u : Nat} (h : u < 18446744073709551616) : HexGood (List.replicate (16 - (hexL u).length) 48 ++ hexL u) ∧ hexVal (List.replicate (16 - (hexL u).length) 48 ++ hexL u) = u := by
  have hl := hexL_length u
  refine ⟨⟨by simp; omega, by simp; omega, fun c hc => ?_⟩, by rw [hexVal_zeros, hexVal_hexL h]⟩
  rcases List.mem_append.1 hc with h1 | h1
  · rw [(List.mem_replicate.1 h1).2]; unfold HexC; decide
  · exact aux_hexc 16 u [] (by simp) c h1

theorem dig_low {d : Nat} (h : d < 16) : (dig d).toNat = if d < 10 then 48 + d else 87 + d := dig_cases (P := fun d c => c.toNat = if d < 10 then 48 + d else 87 + d) (by decide) d h
theorem hexv_inj {a b : UInt8} (ha : HexC a) (hb : HexC b) (h : hexv a = hexv b) : a = b := by
  unfold HexC at ha hb
  unfold hexv at h
  apply UInt8.toNat_inj.1
  split at h <;> split at h <;> omega
/-- texts of as many small digits with one number are one -/
theorem hexVal_inj : ∀ {l m : List UInt8}, l.length = m.length → (∀ c ∈ l, HexC c) → (∀ c ∈ m, HexC c) → hexVal l = hexVal m → l = m
  | [], [], _, _, _, _ => rfl
  | [], _ :: _, h, _, _, _ => by simp at h
  | _ :: _, [], h, _, _, _ => by simp at h
  | c :: l, d :: m, h, hl, hm, hv => by
    have h1 : l.length = m.length := by simpa using h
    rw [hexVal_cons, hexVal_cons, h1] at hv
    have a1 := hexVal_lt l (fun x hx => hl x (by simp [hx]))
    have a2 := hexVal_lt m (fun x hx => hm x (by simp [hx]))
    rw [h1] at a1
    have hp : 0 < 16 ^ m.length := Nat.pow_pos (by omega)
    generalize 16 ^ m.length = p at *
    have h2 : hexv c = hexv d := by
      have b1 : (hexv c * p + hexVal l) / p = hexv c := by rw [Nat.mul_comm, Nat.mul_add_div hp, Nat.div_eq_of_lt a1, Nat.add_zero]
      have b2 : (hexv d * p + hexVal m) / p = hexv d := by rw [Nat.mul_comm, Nat.mul_add_div hp, Nat.div_eq_of_lt a2, Nat.add_zero]
      rw [← b1, ← b2, hv]
    rw [h2] at hv
    rw [hexv_inj (hl c (by simp)) (hm d (by simp)) h2, hexVal_inj h1 (fun x hx => hl x (by simp [hx])) (fun x hx => hm x (by simp [hx])) (by omega)]
/-- a round of the document's digits -/
theorem low_step {x b i : Nat} {acc : List UInt8} (hb : b = x / 16 ^ i) (h : acc.length = i ∧ (∀ c ∈ acc, HexC c) ∧ hexVal acc = x % 16 ^ i) :
    b / 16 = x / 16 ^ (i + 1) ∧ (dig (b % 16) :: acc).length = i + 1 ∧ (∀ c ∈ dig (b % 16) :: acc, HexC c) ∧ hexVal (dig (b % 16) :: acc) = x % 16 ^ (i + 1) := by
  obtain ⟨h1, h2, h3⟩ := h
  refine ⟨by rw [hb, Nat.pow_succ, Nat.div_div_eq_div_mul], by simp [h1], fun c hc => ?_, ?_⟩
  · rcases List.mem_cons.1 hc with h | h
    · rw [h]; exact hexc_dig (by omega)
    · exact h2 c h
  · rw [hexVal_cons, hexv_dig (by omega), h1, h3, hb, Nat.pow_succ, Nat.mod_mul, Nat.mul_comm (16 ^ i), Nat.add_comm]
end Go.Proofs.YtdgphhpeebieaaaDoor.Hx
