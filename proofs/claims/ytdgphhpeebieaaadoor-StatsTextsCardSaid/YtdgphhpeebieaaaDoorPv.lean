/-
  WALK: strconv.ParseUint (the public one) at base 16, 64 bits.
-/
import Derived.Test.YtdgphhpeebieaaaDoorPu
import Derived.Test.YtdgphhpeebieaaaDoorShE
namespace Go.Proofs.YtdgphhpeebieaaaDoor
open Go.RowKit Hx
set_option linter.unusedVariables false

/-- strconv's two errors lie where they lie -/
def ErrV (w : World) : Prop := (∃ te pe, w.cell? ⟨2, 0, none⟩ = some (.iface te pe)) ∧ (∃ te pe, w.cell? ⟨3, 0, none⟩ = some (.iface te pe))
theorem errV_below {w w1 : World} (h : ErrV w) (hb : Below w.heap.size w w1) : ErrV w1 := by
  obtain ⟨⟨t1, p1, h1⟩, ⟨t2, p2, h2⟩⟩ := h
  exact ⟨⟨t1, p1, (hb.cell (World.block_lt_of_cell? w _ h1)).trans h1⟩, ⟨t2, p2, (hb.cell (World.block_lt_of_cell? w _ h2)).trans h2⟩⟩

/-- an error that is not nil -/
def IsErr (v : Value) : Prop := ∃ t p, v = .iface t p
def PvPost (l : List UInt8) (w : World) (e : Ending) (w' : World) : Prop :=
  ∃ (n : Int) (err : Value), e = .returned (.tuple #[.int .u64 n, err]) ∧ Hid (0 ≤ n ∧ n ≤ 18446744073709551615) ∧ (err = .nilIface ∨ IsErr err) ∧ Hid (HexGood l → err = .nilIface ∧ n = hexVal l) ∧ Below w.heap.size w w'

set_option maxRecDepth 100000 in
theorem pu16_empty (w : World) :
    Calls Tryd.prog 72 #[.string ⟨#[]⟩, .int .i64 16, .int .i64 64] w fun e w' => e = .returned (.tuple #[.int .u64 0, errVal 2]) ∧ w = w' := by
  go_enter Tryd.func72, Tryd.ntmps72
  go_wp2_with fail
  go_ret2
  exact ⟨rfl, rfl⟩
theorem pu16_in (s : ByteArray) (hs : s.size ≤ 9223372036854775806) (w : World) :
    Calls Tryd.prog 72 #[.string s, .int .i64 16, .int .i64 64] w (PuPost s.data.toList w) := by
  by_cases h : s.size = 0
  · obtain rfl : s = ⟨#[]⟩ := by
      obtain ⟨d⟩ := s
      congr 1
      exact Array.eq_empty_of_size_eq_zero h
    exact (pu16_empty w).mono fun e w' ⟨he, hw⟩ => ⟨0, errVal 2, he, ⟨by omega, by omega⟩, .inr (.inr rfl), fun hg => absurd hg.1 (by simp), by rw [← hw]; exact Below.refl _ _⟩
  · exact pu16i s hs w h

set_option maxRecDepth 100000 in
theorem pu16 (s : ByteArray) (hs : s.size ≤ 281474976710656) (w : World) (hE : Hid (ErrV w)) :
    Calls Tryd.prog 59 #[.string s, .int .i64 16, .int .i64 64] w (PvPost s.data.toList w) := by
  go_enter Tryd.func59, Tryd.ntmps59
  go_wp2_with fail
  refine (pu16_in s (by omega) _).mono ?_
  rintro e w1 ⟨n, err, rfl, hn, her, hg, hb⟩
  have Hb := Lib.hid hb
  clear hb
  obtain ⟨⟨t1, p1, v1⟩, ⟨t2, p2, v2⟩⟩ := errV_below hE.out Hb.out
  have V1 := Lib.hid v1
  have V2 := Lib.hid v2
  clear v1 v2
  rcases her with rfl | rfl | rfl
  · go_wp2_with fail
    go_ret2
    exact ⟨n, _, rfl, hn, .inl rfl, fun h => ⟨rfl, (hg.out h).2⟩, Hb.out⟩
  · go_wp2_with fail
    refine (Tryd.strconv_toError_range _ s 16 64 _ _ hs V2.out (.inr ⟨_, _, rfl⟩)).mono ?_
    rintro e w2 ⟨N, rfl, hN, hc, hb2⟩
    have Hb2 := Lib.hid (Hb.out.trans (hb2.mono Hb.out.size))
    clear hb2 hc hN
    go_wp2_with fail
    go_ret2
    exact ⟨n, _, rfl, hn, .inr ⟨_, _, rfl⟩, fun h => absurd (hg.out h).1 (by simp), Hb2.out⟩
  · go_wp2_with fail
    refine (Tryd.strconv_toError_syntax _ s 16 64 _ _ hs V1.out (.inr ⟨_, _, rfl⟩)).mono ?_
    rintro e w2 ⟨N, rfl, hN, hc, hb2⟩
    have Hb2 := Lib.hid (Hb.out.trans (hb2.mono Hb.out.size))
    clear hb2 hc hN
    go_wp2_with fail
    go_ret2
    exact ⟨n, _, rfl, hn, .inr ⟨_, _, rfl⟩, fun h => absurd (hg.out h).1 (by simp), Hb2.out⟩
end Go.Proofs.YtdgphhpeebieaaaDoor
