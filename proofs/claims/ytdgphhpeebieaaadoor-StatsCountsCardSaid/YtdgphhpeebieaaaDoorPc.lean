/-
  WALK: chance.Parse.
-/
import Derived.Test.YtdgphhpeebieaaaDoorPv
import Derived.Test.YtdgphhpeebieaaaDoorAm
import Derived.Test.YtdgphhpeebieaaaDoorOr
namespace Go.Proofs.YtdgphhpeebieaaaDoor
open Go.RowKit FP Hx
set_option linter.unusedVariables false

theorem tab16_keep {w w1 : World} (h : Tab16 w) (hb : Below w.heap.size w w1) : Tab16 w1 := (hb.cell (World.block_lt_of_cell? w _ h)).trans h
/-- what chance.Parse comes to -/
def ParsePost (l : List UInt8) (w : World) (e : Ending) (w' : World) : Prop :=
  ∃ (y : Nat) (ok : Bool), e = .returned (.tuple #[.float .f64 y, .bool ok]) ∧ Hid (Wd y) ∧ Hid (ok = true → textL y = l) ∧ Hid (ok = false → y = 0) ∧ Hid (∀ x, Wd x → l = textL x → ok = true ∧ bitsB x y = true) ∧ Below w.heap.size w w'

theorem text_ninf : textL 18442240474082181120 = [45, 97, 108, 108] := by decide +kernel
theorem text_inf : textL 9218868437227405312 = [97, 108, 108] := by decide +kernel
theorem text_nan : textL 9221120237041090561 = [110, 111, 110, 101] := by decide +kernel
theorem text_len {x : Nat} (h : isNot x = false) (h1 : x ≠ 9218868437227405312) (h2 : x ≠ 18442240474082181120) : textL x = List.replicate (16 - (hexL x).length) 48 ++ hexL x := by
  unfold textL; rw [h, if_neg h1, if_neg h2]; rfl
theorem text_four (x : Nat) : (isNot x = true ∧ textL x = [110, 111, 110, 101]) ∨ (x = 9218868437227405312 ∧ textL x = [97, 108, 108]) ∨ (x = 18442240474082181120 ∧ textL x = [45, 97, 108, 108]) ∨
    (isNot x = false ∧ textL x = List.replicate (16 - (hexL x).length) 48 ++ hexL x ∧ (textL x).length = 16) := by
  cases hn : isNot x
  · by_cases h1 : x = 9218868437227405312
    · exact .inr (.inl ⟨h1, by rw [h1]; exact text_inf⟩)
    · by_cases h2 : x = 18442240474082181120
      · exact .inr (.inr (.inl ⟨h2, by rw [h2]; exact text_ninf⟩))
      · have h3 := text_len hn h1 h2
        have h4 := hexL_length x
        exact .inr (.inr (.inr ⟨rfl, h3, by rw [h3]; simp; omega⟩))
  · exact .inl ⟨rfl, by unfold textL; rw [hn]; rfl⟩

theorem str_of {s : ByteArray} {l : List UInt8} (h : (s.toList == l) = true) : s.data.toList = l := by
  have h1 := eq_of_beq h
  rw [← ByteArray.toList_eq]
  exact h1
theorem str_not {s : ByteArray} {l : List UInt8} (h : (s.toList == l) = false) : s.data.toList ≠ l := by
  intro e
  rw [← e, ByteArray.toList_eq] at h
  simp at h

/-- a text is of one number alone (those that are none are alike) -/
theorem text_inj {x y : Nat} (hx : Wd x) (hy : Wd y) (h : textL x = textL y) : bitsB x y = true := by
  unfold bitsB
  rcases text_four x with ⟨a1, a2⟩ | ⟨a1, a2⟩ | ⟨a1, a2⟩ | ⟨a1, a2, a3⟩ <;> rcases text_four y with ⟨b1, b2⟩ | ⟨b1, b2⟩ | ⟨b1, b2⟩ | ⟨b1, b2, b3⟩
  · rw [a1, b1]; rfl
  · rw [a2, b2] at h; simp at h
  · rw [a2, b2] at h; simp at h
  · rw [← h, a2] at b3; simp at b3
  · rw [a2, b2] at h; simp at h
  · rw [a1, b1]; decide
  · rw [a2, b2] at h; simp at h
  · rw [← h, a2] at b3; simp at b3
  · rw [a2, b2] at h; simp at h
  · rw [a2, b2] at h; simp at h
  · rw [a1, b1]; decide
  · rw [← h, a2] at b3; simp at b3
  · rw [h, b2] at a3; simp at a3
  · rw [h, b2] at a3; simp at a3
  · rw [h, b2] at a3; simp at a3
  · have e1 := (hex16_good hx).2
    have e2 := (hex16_good hy).2
    rw [← a2] at e1
    rw [← b2] at e2
    rw [show x = y by rw [← e1, ← e2, h]]
    simp

set_option maxRecDepth 100000 in
theorem cparse_any (s : ByteArray) (hs : s.size ≤ 281474976710656) (w : World) (hT : Hid (Tab16 w)) (hE : Hid (ErrV w)) :
    Calls Tryd.prog 38 #[.string s] w (ParsePost s.data.toList w) := by
  cases h1 : (s.toList == [110, 111, 110, 101])
  · cases h2 : (s.toList == [97, 108, 108])
    · cases h3 : (s.toList == [45, 97, 108, 108])
      · have n1 := Lib.hid (str_not h1)
        have n2 := Lib.hid (str_not h2)
        have n3 := Lib.hid (str_not h3)
        go_enter Tryd.func38, Tryd.ntmps38
        go_wp2_with fail
        refine (pu16 s hs _ hE).mono ?_
        rintro e w1 ⟨n, err, rfl, hn, her, hg, hb⟩
        obtain ⟨x, rfl⟩ := Int.eq_ofNat_of_zero_le hn.out.1
        have Hx : Hid (Wd x) := by have := hn.out.2; show x < _; omega
        have Hb := Lib.hid hb
        have HT : Hid (Tab16 w1) := tab16_keep hT hb
        clear hn hb
        rcases her with rfl | ⟨t, p, rfl⟩
        · have Hgx : Hid (HexGood s.data.toList → x = hexVal s.data.toList) := fun h => by have := (hg.out h).2; omega
          clear hg
          go_wp2_with fail
          refine (text_any x Hx _ HT).mono ?_
          rintro e w2 ⟨rfl, hb2⟩
          have Hb2 := Lib.hid (Hb.out.trans (hb2.mono Hb.out.size))
          clear hb2
          by_cases he : s.data.toList = textL x
          · have e3 : (textL x == s.toList) = true := by rw [ByteArray.toList_eq, he]; simp
            have He := Lib.hid he
            clear he
            go_wp2_with fail
            go_ret2
            exact ⟨x, true, rfl, Hx, fun _ => He.out.symm, fun h => (by cases h), fun y hy hl => ⟨rfl, text_inj hy Hx (hl.symm.trans He.out)⟩, Hb2.out⟩
          · have e3 : (textL x == s.toList) = false := by rw [ByteArray.toList_eq]; exact beq_eq_false_iff_ne.2 (fun h => he h.symm)
            have He := Lib.hid he
            clear he
            go_wp2_with fail
            go_ret2
            refine ⟨0, false, rfl, (by show Wd _; unfold Wd; omega), fun h => (by cases h), fun _ => rfl, fun y hy hl => ?_, Hb2.out⟩
            exfalso
            rcases text_four y with ⟨_, b2⟩ | ⟨_, b2⟩ | ⟨_, b2⟩ | ⟨_, b2, _⟩
            · exact n1.out (hl.trans b2)
            · exact n2.out (hl.trans b2)
            · exact n3.out (hl.trans b2)
            · obtain ⟨g1, g2⟩ := hex16_good hy
              rw [← b2, ← hl] at g1 g2
              have h4 := Hgx.out g1
              exact He.out (by rw [h4, g2]; exact hl)
        · have Hng : Hid (¬ HexGood s.data.toList) := fun h => by have := (hg.out h).1; simp at this
          clear hg
          go_wp2_with fail
          go_ret2
          refine ⟨0, false, rfl, (by show Wd _; unfold Wd; omega), fun h => (by cases h), fun _ => rfl, fun y hy hl => ?_, Hb.out⟩
          exfalso
          rcases text_four y with ⟨_, b2⟩ | ⟨_, b2⟩ | ⟨_, b2⟩ | ⟨_, b2, _⟩
          · exact n1.out (hl.trans b2)
          · exact n2.out (hl.trans b2)
          · exact n3.out (hl.trans b2)
          · obtain ⟨g1, _⟩ := hex16_good hy
            rw [← b2, ← hl] at g1
            exact Hng.out g1
      · have Hl := Lib.hid (str_of h3)
        go_enter Tryd.func38, Tryd.ntmps38
        go_wp2_with fail
        refine (inf_down _).mono ?_
        rintro e w1 ⟨rfl, rfl⟩
        go_wp2_with fail
        go_ret2
        exact ⟨18442240474082181120, true, rfl, (by show Wd _; unfold Wd; omega), fun _ => by rw [Hl.out]; exact text_ninf, fun h => (by cases h), fun x hx hl => ⟨rfl, text_inj hx (by unfold Wd; omega) (by rw [← hl, Hl.out]; exact text_ninf.symm)⟩, Below.refl _ _⟩
    · have Hl := Lib.hid (str_of h2)
      go_enter Tryd.func38, Tryd.ntmps38
      go_wp2_with fail
      refine (inf_up _).mono ?_
      rintro e w1 ⟨rfl, rfl⟩
      go_wp2_with fail
      go_ret2
      exact ⟨9218868437227405312, true, rfl, (by show Wd _; unfold Wd; omega), fun _ => by rw [Hl.out]; exact text_inf, fun h => (by cases h), fun x hx hl => ⟨rfl, text_inj hx (by unfold Wd; omega) (by rw [← hl, Hl.out]; exact text_inf.symm)⟩, Below.refl _ _⟩
  · have Hl := Lib.hid (str_of h1)
    go_enter Tryd.func38, Tryd.ntmps38
    go_wp2_with fail
    refine (nan_any _).mono ?_
    rintro e w1 ⟨rfl, rfl⟩
    go_wp2_with fail
    go_ret2
    exact ⟨9221120237041090561, true, rfl, (by show Wd _; unfold Wd; omega), fun _ => by rw [Hl.out]; exact text_nan, fun h => (by cases h), fun x hx hl => ⟨rfl, text_inj hx (by unfold Wd; omega) (by rw [← hl, Hl.out]; exact text_nan.symm)⟩, Below.refl _ _⟩
end Go.Proofs.YtdgphhpeebieaaaDoor
