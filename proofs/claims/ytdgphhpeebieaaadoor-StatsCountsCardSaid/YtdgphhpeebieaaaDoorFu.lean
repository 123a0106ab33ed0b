/-
  WALK: strconv.FormatUint at base 16.
-/
import Derived.Test.YtdgphhpeebieaaaDoorChecked
import Derived.Test.YtdgphhpeebieaaaDoorHx
import Derived.Test.YtdgphhpeebieaaaDoorBk
import Derived.WalkKit
import Derived.WalkLawsBesides
import Derived.WalkSpells
import Derived.Lib.Hide
import Derived.Outline
import Derived.Laws.BitsAllLaws
import Derived.Laws.IdiomStrings
namespace Go.Proofs.YtdgphhpeebieaaaDoor
open Go.RowKit Hx
set_option linter.unusedVariables false

/-- the two cells of the library's tables that are read at 16 -/
def Tab16 (w : World) : Prop := w.cell? ⟨6, 15, none⟩ = some (.int .u8 4)

theorem trail16 (w : World) (hT : Hid (Tab16 w)) :
    Calls Tryd.prog 97 #[.int .u64 16] w fun e w' => e = .returned (.int .i64 4) ∧ w = w' := by
  have h : w.cell? ⟨6, 15, none⟩ = some (.int .u8 4) := hT
  have f1 : bits .and .u64 16 (IntKind.u64.wrap (-16)) = 16 := by decide +kernel
  have f2 : IntKind.u64.wrap (16 * 285870213051353865) = 4573923408821661840 := by decide +kernel
  go_enter Tryd.func97, Tryd.ntmps97
  go_wp2
  go_ret
  exact ⟨rfl, rfl⟩

theorem isPow16 (w : World) :
    Calls Tryd.prog 96 #[.int .i64 16] w fun e w' => e = .returned (.bool true) ∧ w = w' := by
  have f1 : bits .and .i64 16 15 = 0 := by decide +kernel
  go_enter Tryd.func96, Tryd.ntmps96
  go_wp2
  go_ret
  exact ⟨rfl, rfl⟩

theorem tab16_alloc {w : World} {o : Obj} (h : Tab16 w) : Tab16 (w.alloc o) := by
  have hb := World.block_lt_of_cell? w _ h
  exact (World.cell?_alloc_lt w o _ hb).trans h

theorem slice65 (g i : Nat) (h : i ≤ 64) (w : World) : (Instr.sliceAt 122 (.pointer (some ⟨g, 0, none⟩)) (some (.int .i64 (i : Int))) none none).run Tryd.prog w = .ok (.slice (some ⟨g, i, none⟩) (65 - i) (65 - i)) w := by
  have hA : Tryd.prog.arrayLen 122 = 65 := by kernel_rfl
  have hE : Tryd.prog.elem 122 = 5 := by kernel_rfl
  have hS : ∀ w : World, (sizeOf 5).run Tryd.prog w = .ok 1 w := fun _ => by kernel_rfl
  have h1 := run_sliceAt_array_l (P := Tryd.prog) w 122 ⟨g, 0, none⟩ (by rw [hA, hE]; exact Tryd.underlying122) .i64 (i : Int) (by omega) (by rw [hA]; omega)
  rw [hE, hS, hA] at h1
  refine h1.trans ?_
  have e : (⟨g, 0, none⟩ : Addr).add (i * 1) = ⟨g, i, none⟩ := by
    rw [Nat.mul_one]; unfold Addr.add
    by_cases h0 : i = 0
    · rw [if_pos h0, h0]
    · rw [if_neg h0]; simp
  show Result.ok (Value.slice (some (if 65 = (i : Int).toNat then _ else _)) _ _) w = _
  rw [Int.toNat_natCast, if_neg (by omega), e]

set_option maxRecDepth 100000 in
theorem formatBits16 (u : Nat) (hu : Hid (u < 18446744073709551616)) (w : World) (hT : Hid (Tab16 w)) :
    Calls Tryd.prog 78 #[.slice none 0 0, .int .u64 u, .int .i64 16, .bool false, .bool false] w fun e w' => e = .returned (.tuple #[.slice none 0 0, .string ⟨(hexL u).toArray⟩]) ∧ Below w.heap.size w w' := by
  obtain ⟨g, hg⟩ : ∃ g, g = w.heap.size := ⟨_, rfl⟩
  have Hg := Lib.hid hg
  clear hg
  go_enter Tryd.func78, Tryd.ntmps78
  go_wp2_with fail
  refine (isPow16 _).mono ?_
  rintro e w1 ⟨rfl, rfl⟩
  go_wp2_with fail
  refine (trail16 _ ?_).mono ?_
  · exact tab16_alloc hT
  rintro e w1 ⟨rfl, rfl⟩
  rw [← Hg.out]
  go_wp2_with fail
  go_loopw [1, 13] (fun s1 s13 wr => ∃ (U : Nat) (acc : List UInt8), Hid (Inv u U acc) ∧ s1 = .int .u64 U ∧ s13 = .int .i64 ((65 - acc.length : Nat) : Int) ∧ Blk wr g 122 (buf acc) ∧ Below w.heap.size w wr) (fun s1 _ _ => (intOf s1).toNat)
  case atStart =>
    refine ⟨u, [], Inv.start u, rfl, rfl, ?_, (Below.refl _ _).alloc (Nat.le_refl _) _⟩
    rw [Hg.out]; exact Blk.new _ _ _
  case round =>
    obtain ⟨U, acc, hI, rfl, rfl, hB, hb⟩ := hrel
    have hl := hI.out.1
    have HB := Lib.hid hB
    have Hb := Lib.hid hb
    clear hB hb
    have hz := HB.out.lt
    obtain ⟨i, hi⟩ : ∃ i : Nat, i = 64 - acc.length := ⟨_, rfl⟩
    have hi65 : 65 - acc.length = i + 1 := by omega
    rw [hi65]
    have c0 : wr.cell? ⟨g, i, none⟩ = some (.int .u8 0) := (HB.out.cell i).trans (buf_get acc i (by omega))
    have f0 : wr.frozen? ⟨g, i, none⟩ = false := HB.out.frozen i
    have hi2 : i ≤ 64 := by omega
    have Hi := Lib.hid hi
    clear hi hi65 hl
    by_cases hge : 16 ≤ U
    · obtain ⟨d, hd⟩ : ∃ d, d = U % 16 := ⟨_, rfl⟩
      have hd' : d < 16 := by omega
      have hUu : U ≤ u := by
        have h := hI.out.2.1
        have hp : 0 < 16 ^ acc.length := Nat.pow_pos (by omega)
        exact Nat.le_trans (Nat.le_mul_of_pos_right _ hp) h
      have hu' : u < 18446744073709551616 := hu
      have e1 : bits .and .u64 (U : Int) 15 = (d : Int) := by
        have h1 := u64_and_nat U 15 (by omega) (by omega)
        rw [nat_mask4, ← hd] at h1
        exact h1
      clear hUu hu'
      have Hd := Lib.hid hd
      clear hd
      go_wp2_with fail
      go_roundw
      case rel =>
        refine ⟨U / 16, dig (U % 16) :: acc, hI.out.step hu hge, by go_num, ?_, ?_, ?_⟩
        · have h1 := hI.out.1
          have h2 := Hi.out
          simp only [List.length_cons]
          exact congrArg (Value.int .i64) (by omega)
        · have h1 := HB.out.set_ i (.int .u8 (dig d).toNat)
          have h2 := hI.out.1
          rw [Hi.out] at h1
          rw [buf_set acc _ (by omega)] at h1
          rw [← Hd.out]
          have h3 := digits_at d hd' (by show d < 36; omega)
          have h4 : (wr.setCell ⟨g, i, none⟩ (.int .u8 ((digits[d]'(by show d < 36; omega)).toNat : Int))) = wr.setCell ⟨g, i, none⟩ (.int .u8 ((dig d).toNat : Int)) := by rw [h3]
          rw [Hi.out] at h4 ⊢
          exact h4 ▸ h1
        · exact Hb.out.setCell (by rw [Hg.out]; exact Nat.le_refl _) _
      case measure => simp [intOf]; omega
    · have hlt : (U : Int) < 16 := by omega
      clear hge
      have hsl : ∀ w : World, (Instr.sliceAt 122 (.pointer (some ⟨g, 0, none⟩)) (some (.int .i64 (i : Int))) none none).run Tryd.prog w = .ok (.slice (some ⟨g, i, none⟩) (65 - i) (65 - i)) w := fun w => slice65 g i hi2 w
      go_wp2_with fail
      generalize hW : wr.setCell { block := g, off := i } _ = W2
      have h1 := HB.out.set_ i (.int .u8 ((dig U).toNat : Int))
      have h4 : W2 = wr.setCell ⟨g, i, none⟩ (.int .u8 ((dig U).toNat : Int)) := by
        rw [← hW]
        exact congrArg (fun c : UInt8 => wr.setCell ⟨g, i, none⟩ (.int .u8 (c.toNat : Int))) (digits_at U (by omega) (by show U < 36; omega))
      rw [← h4] at h1
      clear hW
      have hl := hI.out.1
      have h2 : Hid (Below w.heap.size w W2) := by rw [h4]; exact Hb.out.setCell (by rw [Hg.out]; exact Nat.le_refl _) _
      rw [Hi.out, buf_set acc _ (by omega), ← hI.out.done (by omega)] at h1
      have h5 : (hexL u).length = 65 - i := by rw [hI.out.done (by omega), Hi.out]; simp only [List.length_cons]; omega
      have hcv : (convert 82 9 (.slice (some ⟨g, i, none⟩) (65 - i) (65 - i))).run Tryd.prog W2 = .ok (.string ⟨(hexL u).toArray⟩) W2 := by
        have h6 := run_convert_bytes_back (P := Tryd.prog) W2 82 9 5 ⟨g, i, none⟩ (65 - i) (hexL u) Tryd.underlying82 Tryd.underlying5 Tryd.underlying9 (fun j hj => by
          have h7 := h1.cell (i + j)
          rw [show (⟨g, i, none⟩ : Addr).add j = ⟨g, i + j, none⟩ by unfold Addr.add; split <;> simp_all, h7]
          exact buf_tail _ i j (by omega) hj)
        rw [h5] at h6
        exact h6
      clear h1 h4 h5 hl
      rw [hcv]
      go_wp2_with fail
      go_ret2
      exact ⟨rfl, h2.out⟩

theorem formatUint16i (u : Nat) (hu : Hid (u < 18446744073709551616)) (w : World) (hT : Hid (Tab16 w)) :
    Calls Tryd.prog 63 #[.int .u64 u, .int .i64 16] w fun e w' => e = .returned (.string ⟨(hexL u).toArray⟩) ∧ Below w.heap.size w w' := by
  go_enter Tryd.func63, Tryd.ntmps63
  go_wp2_with fail
  refine (formatBits16 u hu _ hT).mono ?_
  rintro e w1 ⟨rfl, hb⟩
  have Hb := Lib.hid hb
  clear hb
  go_wp2_with fail
  go_ret
  exact ⟨rfl, Hb.out⟩
theorem formatUint16 (u : Nat) (hu : Hid (u < 18446744073709551616)) (w : World) (hT : Hid (Tab16 w)) :
    Calls Tryd.prog 50 #[.int .u64 u, .int .i64 16] w fun e w' => e = .returned (.string ⟨(hexL u).toArray⟩) ∧ Below w.heap.size w w' := by
  go_enter Tryd.func50, Tryd.ntmps50
  go_wp2_with fail
  refine (formatUint16i u hu _ hT).mono ?_
  rintro e w1 ⟨rfl, hb⟩
  have Hb := Lib.hid hb
  clear hb
  go_wp2_with fail
  go_ret
  exact ⟨rfl, Hb.out⟩
end Go.Proofs.YtdgphhpeebieaaaDoor
