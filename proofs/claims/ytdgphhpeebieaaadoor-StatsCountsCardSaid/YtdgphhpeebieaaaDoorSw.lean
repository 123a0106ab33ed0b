/-
  WALKS: package stats: Add, Asked, Count, Going, Rate.
-/
import Derived.Test.YtdgphhpeebieaaaDoorCo
import Derived.Test.YtdgphhpeebieaaaDoorBk
import Derived.Deep.RegionHeld3
import Derived.Deep.RegionLaw
import Derived.Deep.QuietTactic
import Derived.BigQuiet
import Derived.Laws.OwnMore
import Derived.Laws.Rows
namespace Go.Proofs.YtdgphhpeebieaaaDoor
open Go.RowKit FP
set_option linter.unusedVariables false

/-- at most 2^64 - 1 -/
def sumU (a b : Int) : Int := if 18446744073709551615 - b < a then 18446744073709551615 else a + b
/-- a count -/
def Ct (n : Int) : Prop := 0 ≤ n ∧ n ≤ 18446744073709551615
theorem sumU_ct {a b : Int} (ha : Ct a) (hb : Ct b) : Ct (sumU a b) := by unfold Ct sumU at *; split <;> omega

theorem sum_any (a b : Int) (ha : Hid (Ct a)) (hb : Hid (Ct b)) (w : World) :
    Calls Tryd.prog 57 #[.int .u64 a, .int .u64 b] w fun e w' => e = .returned (.int .u64 (sumU a b)) ∧ w = w' := by
  obtain ⟨a0, a1⟩ : Ct a := ha
  obtain ⟨b0, b1⟩ : Ct b := hb
  by_cases c : 18446744073709551615 - b < a
  · have fin : Hid (sumU a b = 18446744073709551615) := if_pos c
    go_enter Tryd.func57, Tryd.ntmps57
    go_wp2
    go_ret
    exact ⟨by rw [fin.out]; rfl, rfl⟩
  · have fin : Hid (sumU a b = a + b) := if_neg c
    go_enter Tryd.func57, Tryd.ntmps57
    go_wp2
    go_ret
    exact ⟨by rw [fin.out]; rfl, rfl⟩

theorem add_any (g : Nat) (k : Nat) (hk : k < 8) (a n : Int) (ha : Hid (Ct a)) (hn : Hid (Ct n)) (w : World) (hc : w.cell? ⟨g, k, none⟩ = some (.int .u64 a)) (hf : w.frozen? ⟨g, k, none⟩ = false) :
    Calls Tryd.prog 56 #[.pointer (some ⟨g, 0, none⟩), .int .i64 k, .int .u64 n] w fun e w' => e = .returned (.tuple #[]) ∧ w' = (w.setCell ⟨g, k, none⟩ (.int .u64 (sumU a n))).drew := by
  go_enter Tryd.func56, Tryd.ntmps56
  go_wp2_with fail
  go_region_law (first | (go_simp; go_at_call 57; refine (sum_any _ _ ha hn _).mono ?_; rintro e w' ⟨rfl, rfl⟩))
  go_end0
  exact ⟨rfl, rfl⟩

/-- the cells of a Stats -/
abbrev cellsOf (n0 n1 n2 n3 n4 n5 n6 n7 : Int) (r : Nat) : Array Value := #[.int .u64 n0, .int .u64 n1, .int .u64 n2, .int .u64 n3, .int .u64 n4, .int .u64 n5, .int .u64 n6, .int .u64 n7, .float .f64 r]

theorem going_any (n0 n1 n2 n3 n4 n5 n6 n7 : Int) (r : Nat) (w : World) :
    Calls Tryd.prog 44 #[.agg (cellsOf n0 n1 n2 n3 n4 n5 n6 n7 r)] w fun e w' => e = .returned (.float .f64 r) ∧ Below w.heap.size w w' := by
  go_enter Tryd.func44, Tryd.ntmps44
  go_wp2
  go_ret
  exact ⟨rfl, (Below.refl _ _).alloc (Nat.le_refl _) _⟩

theorem count_any (k : Nat) (hk : k < 8) (v : Int) (cs : Array Value) (hcs : cs[k]? = some (.int .u64 v)) (w : World) :
    Calls Tryd.prog 35 #[.agg cs, .int .i64 k] w fun e w' => e = .returned (.int .u64 v) ∧ Below w.heap.size w w' := by
  have hc : (w.alloc (.cells cs 48)).cell? ⟨w.heap.size, k, none⟩ = some (.int .u64 v) := ((Blk.new w 48 cs).cell k).trans hcs
  clear hcs
  go_enter Tryd.func35, Tryd.ntmps35
  go_wp2
  go_ret
  exact ⟨rfl, (Below.refl _ _).alloc (Nat.le_refl _) _⟩
theorem count_out (k : Int) (hk : k < 0 ∨ 8 ≤ k) (cs : Array Value) (w : World) :
    Calls Tryd.prog 35 #[.agg cs, .int .i64 k] w fun e w' => e = .returned (.int .u64 0) ∧ Below w.heap.size w w' := by
  rcases hk with hk | hk
  · go_enter Tryd.func35, Tryd.ntmps35
    go_wp2
    go_ret
    exact ⟨rfl, (Below.refl _ _).alloc (Nat.le_refl _) _⟩
  · have h0 : ¬ k < 0 := by omega
    go_enter Tryd.func35, Tryd.ntmps35
    go_wp2
    go_ret
    exact ⟨rfl, (Below.refl _ _).alloc (Nat.le_refl _) _⟩

theorem rate_any (a b n2 n3 n4 n5 n6 n7 : Nat) (r : Nat) (ha : a ≤ 18446744073709551615) (hb : b ≤ 18446744073709551615) (w : World) :
    Calls Tryd.prog 43 #[.agg (cellsOf a b n2 n3 n4 n5 n6 n7 r)] w fun e w' => ∃ q, IsRatio b a q ∧ e = .returned (.float .f64 q) ∧ Below w.heap.size w w' := by
  have hR := fun w => Lib.hid (ratio_any b a hb ha w)
  clear ha hb
  go_enter Tryd.func43, Tryd.ntmps43
  go_wp2_with fail
  refine (hR _).out.mono ?_
  rintro e w' ⟨q, hq, rfl, n, rfl⟩
  have Hq := Lib.hid hq
  clear hq hR
  go_wp2_with fail
  go_ret
  exact ⟨q, Hq.out, rfl, below_drewN ((Below.refl _ _).alloc (Nat.le_refl _) _) n⟩

theorem run_store_flt (P : Program) (w : World) (a : Addr) (m : Mode) (k : FloatKind) (b : Nat) : (store a (.float k b) m).run P w = stored P w a (.float k b) m := run_store P w a _ m rfl
attribute [local go_sem] run_store_flt

theorem add_blk (g : Nat) (k : Nat) (hk : k < 8) (a n : Int) (ha : Hid (Ct a)) (hn : Hid (Ct n)) (w : World) (cs : Array Value) (hB : Blk w g 48 cs) (hc : cs[k]? = some (.int .u64 a)) :
    Calls Tryd.prog 56 #[.pointer (some ⟨g, 0, none⟩), .int .i64 k, .int .u64 n] w fun e w' => e = .returned (.tuple #[]) ∧
      Blk w' g 48 (cs.setIfInBounds k (.int .u64 (sumU a n))) ∧ w.grownBy w' (some g) := by
  refine (add_any g k hk a n ha hn w ((hB.cell k).trans hc) (hB.frozen k)).mono ?_
  rintro e w' ⟨rfl, rfl⟩
  exact ⟨rfl, (hB.set_ k _).drew, gb_drew (gb_set (gb_refl _ _) (.inl rfl) _)⟩
theorem ct_one : Hid (Ct 1) := by show Ct 1; unfold Ct; omega

theorem asked_hit (g : Nat) (n0 n1 n2 n3 n4 n5 n6 n7 : Int) (r by_ : Nat) (w : World) (hB : Hid (Blk w g 48 (cellsOf n0 n1 n2 n3 n4 n5 n6 n7 r))) (h0 : Hid (Ct n0)) (h1 : Hid (Ct n1)) (hr : Hid (Wd r)) (hb : Hid (Wd by_)) :
    Calls Tryd.prog 55 #[.pointer (some ⟨g, 0, none⟩), .bool true, .float .f64 by_] w fun e w' => e = .returned (.tuple #[]) ∧
      Blk w' g 48 (cellsOf (sumU n0 1) (sumU n1 1) n2 n3 n4 n5 n6 n7 (blendW r one by_)) ∧ w.grownBy w' (some g) := by
  go_enter Tryd.func55, Tryd.ntmps55
  go_wp2_with fail
  refine (add_blk g 0 (by omega) n0 1 h0 ct_one _ _ hB.out rfl).mono ?_
  rintro e w1 ⟨rfl, hb1, hg1⟩
  have B1 := Lib.hid hb1; have G1 := Lib.hid hg1; clear hb1 hg1
  go_wp2_with fail
  refine (add_blk g 1 (by omega) n1 1 h1 ct_one _ _ B1.out rfl).mono ?_
  rintro e w2 ⟨rfl, hb2, hg2⟩
  have B2 := Lib.hid hb2; have G2 := Lib.hid hg2; clear hb2 hg2
  have c8 : w2.cell? ⟨g, 8, none⟩ = some (.float .f64 r) := B2.out.cell 8
  have f8 : w2.frozen? ⟨g, 8, none⟩ = false := B2.out.frozen 8
  go_wp2_with fail
  refine (blend_any _ _ _ hr one_wd hb _).mono ?_
  rintro e w3 ⟨rfl, rfl⟩
  go_wp2_with fail
  go_end0
  exact ⟨rfl, B2.out.set_ 8 _, gb_set (gb_trans G1.out G2.out) (.inl rfl) _⟩

theorem asked_miss (g : Nat) (n0 n1 n2 n3 n4 n5 n6 n7 : Int) (r by_ : Nat) (w : World) (hB : Hid (Blk w g 48 (cellsOf n0 n1 n2 n3 n4 n5 n6 n7 r))) (h0 : Hid (Ct n0)) (hr : Hid (Wd r)) (hb : Hid (Wd by_)) :
    Calls Tryd.prog 55 #[.pointer (some ⟨g, 0, none⟩), .bool false, .float .f64 by_] w fun e w' => e = .returned (.tuple #[]) ∧
      Blk w' g 48 (cellsOf (sumU n0 1) n1 n2 n3 n4 n5 n6 n7 (blendW r 0 by_)) ∧ w.grownBy w' (some g) := by
  go_enter Tryd.func55, Tryd.ntmps55
  go_wp2_with fail
  refine (add_blk g 0 (by omega) n0 1 h0 ct_one _ _ hB.out rfl).mono ?_
  rintro e w2 ⟨rfl, hb2, hg2⟩
  have B2 := Lib.hid hb2; have G2 := Lib.hid hg2; clear hb2 hg2
  have c8 : w2.cell? ⟨g, 8, none⟩ = some (.float .f64 r) := B2.out.cell 8
  have f8 : w2.frozen? ⟨g, 8, none⟩ = false := B2.out.frozen 8
  go_wp2_with fail
  refine (blend_any _ _ _ hr (le_one_wd (Nat.zero_le _)) hb _).mono ?_
  rintro e w3 ⟨rfl, rfl⟩
  go_wp2_with fail
  go_end0
  exact ⟨rfl, B2.out.set_ 8 _, gb_set G2.out (.inl rfl) _⟩

theorem blk9 {w : World} {g : Nat} {n0 n1 n2 n3 n4 n5 n6 n7 : Int} {r : Nat} (h : Blk w g 48 (cellsOf n0 n1 n2 n3 n4 n5 n6 n7 r)) :
    w.cell? ⟨g, 0, none⟩ = some (.int .u64 n0) ∧ w.cell? ⟨g, 1, none⟩ = some (.int .u64 n1) ∧ w.cell? ⟨g, 2, none⟩ = some (.int .u64 n2) ∧ w.cell? ⟨g, 3, none⟩ = some (.int .u64 n3) ∧
    w.cell? ⟨g, 4, none⟩ = some (.int .u64 n4) ∧ w.cell? ⟨g, 5, none⟩ = some (.int .u64 n5) ∧ w.cell? ⟨g, 6, none⟩ = some (.int .u64 n6) ∧ w.cell? ⟨g, 7, none⟩ = some (.int .u64 n7) ∧ w.cell? ⟨g, 8, none⟩ = some (.float .f64 r) :=
  ⟨h.cell 0, h.cell 1, h.cell 2, h.cell 3, h.cell 4, h.cell 5, h.cell 6, h.cell 7, h.cell 8⟩
end Go.Proofs.YtdgphhpeebieaaaDoor
