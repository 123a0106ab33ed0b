/-
  WALK: ChanceTexts: any number is written in one way, and read back.
-/
import Derived.Test.YtdgphhpeebieaaaDoorRx
import Derived.Test.YtdgphhpeebieaaaDoorPc
import Derived.Test.YtdgphhpeebieaaaDoorCa
namespace Go.Proofs.YtdgphhpeebieaaaDoor
open Go.RowKit FP Hx
set_option linter.unusedVariables false

def cutB (s : ByteArray) (n : Nat) : ByteArray := if s.size ≤ n then s else s.extract 0 n
theorem cutB_size (s : ByteArray) (n : Nat) : (cutB s n).size ≤ n := by
  unfold cutB; split
  · assumption
  · rw [ByteArray.size_extract]; omega

theorem cut_any (s : ByteArray) (n : Nat) (w : World) :
    Calls Tryd.prog 40 #[.string s, .int .i64 n] w fun e w' => e = .returned (.string (cutB s n)) ∧ w' = w := by
  by_cases h : s.size ≤ n
  · rw [show cutB s n = s by unfold cutB; rw [if_pos h]]
    have h1 : ¬ (n : Int) < (s.size : Int) := by omega
    have h2 : ¬ n < s.size := by omega
    go_enter Tryd.func40, Tryd.ntmps40
    go_wp2_with fail
    go_ret
    first | exact ⟨rfl, rfl⟩ | trace_state
  · rw [show cutB s n = s.extract 0 n by unfold cutB; rw [if_neg h]]
    have h1 : (n : Int) < (s.size : Int) := by omega
    have h2 : n < s.size := by omega
    go_enter Tryd.func40, Tryd.ntmps40
    go_wp2_with fail
    go_ret
    first | exact ⟨rfl, rfl⟩ | trace_state

theorem text_size (x : Nat) : (textL x).length ≤ 281474976710656 := by
  rcases text_four x with ⟨_, h⟩ | ⟨_, h⟩ | ⟨_, h⟩ | ⟨_, _, h⟩ <;> rw [h] <;> decide

set_option maxRecDepth 100000 in
theorem texts_core (x : Nat) (s : ByteArray) (hx : Hid (Wd x)) (w : World) (hT : Hid (Tab16 w)) (hE : Hid (ErrV w)) :
    Calls Tryd.prog 10 #[.int .u64 x, .string s] w fun e w' => e = .returned (.bool true) ∧ Below w.heap.size w w' := by
  obtain ⟨l, hl⟩ : ∃ l, l = textL x := ⟨_, rfl⟩
  have hls : (⟨l.toArray⟩ : ByteArray).size ≤ 281474976710656 := by rw [hl]; exact text_size x
  have hlt : (⟨l.toArray⟩ : ByteArray).data.toList = l := rfl
  have Hl := Lib.hid hl
  have HLS := Lib.hid hls
  clear hls hl
  go_enter Tryd.func10, Tryd.ntmps10
  go_wp2_with fail
  refine (cawake_any _ hT).mono ?_
  rintro e w1 ⟨rfl, hw1⟩
  have W1 := Lib.hid hw1
  have hT1 : Hid (Tab16 w1) := tab16_keep hT.out hw1
  have hE1 : Hid (ErrV w1) := errV_below hE.out hw1
  clear hw1
  go_wp2_with fail
  refine (text_any x hx _ hT1).mono ?_
  rintro e w2 ⟨rfl, hw2⟩
  rw [← Hl.out]
  have W2 := Lib.hid (W1.out.trans (hw2.mono W1.out.size))
  have hT2 : Hid (Tab16 w2) := tab16_keep hT1.out hw2
  have hE2 : Hid (ErrV w2) := errV_below hE1.out hw2
  clear hw2 W1
  go_wp2_with fail
  refine (cparse_any ⟨l.toArray⟩ HLS.out _ hT2 hE2).mono ?_
  rintro e w3 ⟨y, ok, rfl, hy, hok, hno, hex, hw3⟩
  obtain ⟨rfl, hbb⟩ := hex.out x hx.out Hl.out
  have Hbb := Lib.hid hbb
  have W3 := Lib.hid (W2.out.trans (hw3.mono W2.out.size))
  have hT3 : Hid (Tab16 w3) := tab16_keep hT2.out hw3
  have hE3 : Hid (ErrV w3) := errV_below hE2.out hw3
  clear hw3 W2 hex hno hbb
  go_wp2_with fail
  refine (refText_any x hx _).mono ?_
  rintro e w4 ⟨rfl, hw4⟩
  rw [← Hl.out]
  have W4 := Lib.hid (W3.out.trans (hw4.mono W3.out.size))
  have hT4 : Hid (Tab16 w4) := tab16_keep hT3.out hw4
  have hE4 : Hid (ErrV w4) := errV_below hE3.out hw4
  clear hw4 W3
  go_wp2_with fail
  refine (bits_any x y hx hy _).mono ?_
  rintro e w5 ⟨rfl, rfl⟩
  rw [Hbb.out]
  go_wp2_with fail
  refine (cut_any s 40 _).mono ?_
  rintro e w5 ⟨rfl, rfl⟩
  have hcs := cutB_size s 40
  obtain ⟨c, hc⟩ : ∃ c, c = cutB s 40 := ⟨_, rfl⟩
  rw [← hc] at hcs ⊢
  have HCS := Lib.hid hcs
  clear hc hcs
  go_wp2_with fail
  refine (cparse_any c (Nat.le_trans HCS.out (by omega)) _ hT4 hE4).mono ?_
  rintro e w5 ⟨z, good, rfl, hz, hgood, hbad, hex, hw5⟩
  have W5 := Lib.hid (W4.out.trans (hw5.mono W4.out.size))
  clear hw5 W4 hex
  cases good
  · have hz0 := hbad.out rfl
    subst hz0
    clear hbad hgood
    go_wp2_with fail
    go_ret
    exact ⟨rfl, W5.out⟩
  · have hs := hgood.out rfl
    have e3 : (textL z == c.toList) = true := by rw [ByteArray.toList_eq, hs]; simp
    clear hs hbad hgood
    go_wp2_with fail
    refine (refText_any z hz _).mono ?_
    rintro e w6 ⟨rfl, hw6⟩
    have W6 := Lib.hid (W5.out.trans (hw6.mono W5.out.size))
    clear hw6 W5
    go_wp2_with fail
    go_ret
    exact ⟨rfl, W6.out⟩

theorem texts_walk (a0 : Int) (w0 : (Lit.int .u64 a0).wf = true) (s : ByteArray) (hs : s.size ≤ maxLen) (w : World) (hT : Tab16 w) (hE : ErrV w) :
    Calls Tryd.prog 10 #[.int .u64 a0, .string s] w fun e w' => e = .returned (.bool true) ∧ Below w.heap.size w w' := by
  have h0 : 0 ≤ a0 ∧ a0 ≤ 18446744073709551615 := bounds_u64 w0
  obtain ⟨n, rfl⟩ := Int.eq_ofNat_of_zero_le h0.1
  exact texts_core n s (by show Wd _; unfold Wd; omega) w hT hE
end Go.Proofs.YtdgphhpeebieaaaDoor
