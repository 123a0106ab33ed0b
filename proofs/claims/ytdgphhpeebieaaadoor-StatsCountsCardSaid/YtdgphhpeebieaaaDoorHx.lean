/-
  PLAIN: a number in hexadecimal digits. No Go in it.
-/
import Derived.WalkKit
namespace Go.Proofs.YtdgphhpeebieaaaDoor.Hx

/-- a digit of sixteen -/
def dig (n : Nat) : UInt8 := if n < 10 then UInt8.ofNat (48 + n) else UInt8.ofNat (87 + n)
def aux : Nat → Nat → List UInt8 → List UInt8
  | 0, _, acc => acc
  | f + 1, u, acc => if u < 16 then dig u :: acc else aux f (u / 16) (dig (u % 16) :: acc)
/-- u in hexadecimal -/
def hexL (u : Nat) : List UInt8 := aux 16 u []

def digits : ByteArray := ⟨#[48, 49, 50, 51, 52, 53, 54, 55, 56, 57, 97, 98, 99, 100, 101, 102, 103, 104, 105, 106, 107, 108, 109, 110, 111, 112, 113, 114, 115, 116, 117, 118, 119, 120, 121, 122]⟩
set_option linter.unusedVariables false in
theorem digits_at : ∀ (d : Nat) (h : d < 16) (h' : d < digits.size), digits[d] = dig d
  | 0, _, _ => rfl
  | 1, _, _ => rfl
  | 2, _, _ => rfl
  | 3, _, _ => rfl
  | 4, _, _ => rfl
  | 5, _, _ => rfl
  | 6, _, _ => rfl
  | 7, _, _ => rfl
  | 8, _, _ => rfl
  | 9, _, _ => rfl
  | 10, _, _ => rfl
  | 11, _, _ => rfl
  | 12, _, _ => rfl
  | 13, _, _ => rfl
  | 14, _, _ => rfl
  | 15, _, _ => rfl
  | n + 16, h, _ => absurd h (by omega)
theorem aux_length (f : Nat) : ∀ (u : Nat) (acc : List UInt8), (aux f u acc).length ≤ f + acc.length := by
  induction f with
  | zero => intro u acc; simp [aux]
  | succ f ih =>
    intro u acc
    unfold aux
    split
    · simp; omega
    · have := ih (u / 16) (dig (u % 16) :: acc)
      simp only [List.length_cons] at this
      omega
theorem hexL_length (u : Nat) : (hexL u).length ≤ 16 := aux_length 16 u []
theorem aux_pos (f : Nat) : ∀ (u : Nat) (acc : List UInt8), acc.length ≤ (aux f u acc).length := by
  induction f with
  | zero => intro u acc; simp [aux]
  | succ f ih =>
    intro u acc
    unfold aux
    split
    · simp
    · have := ih (u / 16) (dig (u % 16) :: acc)
      simp only [List.length_cons] at this
      omega
theorem hexL_pos (u : Nat) : 1 ≤ (hexL u).length := by
  unfold hexL
  rw [aux]
  split
  · simp
  · exact Nat.le_trans (by simp) (aux_pos 15 (u / 16) [dig (u % 16)])

/-- the buffer: what is not written, then the digits -/
def buf (acc : List UInt8) : Array Value := (List.replicate (65 - acc.length) (Value.int .u8 0) ++ acc.map fun c => Value.int .u8 c.toNat).toArray
theorem buf_nil : buf [] = Array.replicate 65 (Value.int .u8 0) := rfl
theorem buf_set (acc : List UInt8) (c : UInt8) (h : acc.length ≤ 64) : (buf acc).setIfInBounds (64 - acc.length) (.int .u8 c.toNat) = buf (c :: acc) := by
  unfold buf
  rw [List.setIfInBounds_toArray]
  congr 1
  rw [show 65 - acc.length = (64 - acc.length) + 1 by omega, List.replicate_succ', List.append_assoc, List.set_append_right _ _ (by simp)]
  simp
theorem buf_get (acc : List UInt8) (i : Nat) (h : i < 65 - acc.length) : (buf acc)[i]? = some (.int .u8 0) := by
  unfold buf
  rw [List.getElem?_toArray, List.getElem?_append_left (by simpa using h), List.getElem?_replicate_of_lt h]
theorem buf_tail (acc : List UInt8) (i j : Nat) (hl : acc.length = 65 - i ∧ i ≤ 64) (hj : j < acc.length) : (buf acc)[i + j]? = some (.int .u8 (acc[j].toNat : Int)) := by
  unfold buf
  rw [List.getElem?_toArray, List.getElem?_append_right (by simp; omega)]
  simp only [List.length_replicate, List.getElem?_map]
  rw [show i + j - (65 - acc.length) = j by omega, List.getElem?_eq_getElem hj]
  rfl
theorem buf_size (acc : List UInt8) (h : acc.length ≤ 65) : (buf acc).size = 65 := by unfold buf; simp; omega

/-- what holds at a round's head -/
def Inv (u U : Nat) (acc : List UInt8) : Prop := acc.length ≤ 15 ∧ U * 16 ^ acc.length ≤ u ∧ aux (16 - acc.length) U acc = hexL u
theorem Inv.start (u : Nat) : Inv u u [] := ⟨by simp, by simp, rfl⟩
theorem Inv.step {u U : Nat} {acc : List UInt8} (hu : u < 18446744073709551616) (h : Inv u U acc) (hU : 16 ≤ U) : Inv u (U / 16) (dig (U % 16) :: acc) := by
  obtain ⟨h1, h2, h3⟩ := h
  have hp : 0 < 16 ^ acc.length := Nat.pow_pos (by omega)
  have hlen : acc.length < 15 := by
    rcases Nat.lt_or_ge acc.length 15 with h | h
    · exact h
    · have e : acc.length = 15 := by omega
      rw [e] at h2
      omega
  refine ⟨by simp only [List.length_cons]; omega, ?_, ?_⟩
  · simp only [List.length_cons, Nat.pow_succ]
    have h4 : U / 16 * 16 ≤ U := Nat.div_mul_le_self U 16
    calc U / 16 * (16 ^ acc.length * 16) = U / 16 * 16 * 16 ^ acc.length := by rw [Nat.mul_comm (16 ^ acc.length), Nat.mul_assoc]
      _ ≤ U * 16 ^ acc.length := Nat.mul_le_mul_right _ h4
      _ ≤ u := h2
  · rw [← h3]
    simp only [List.length_cons]
    obtain ⟨f, hf⟩ : ∃ f, 16 - acc.length = f + 1 := ⟨15 - acc.length, by omega⟩
    rw [hf, show 16 - (acc.length + 1) = f by omega]
    conv => rhs; unfold aux
    rw [if_neg (by omega)]
theorem Inv.done {u U : Nat} {acc : List UInt8} (h : Inv u U acc) (hU : U < 16) : hexL u = dig U :: acc := by
  obtain ⟨h1, _, h3⟩ := h
  rw [← h3]
  obtain ⟨f, hf⟩ : ∃ f, 16 - acc.length = f + 1 := ⟨15 - acc.length, by omega⟩
  rw [hf, aux, if_pos hU]
end Go.Proofs.YtdgphhpeebieaaaDoor.Hx
