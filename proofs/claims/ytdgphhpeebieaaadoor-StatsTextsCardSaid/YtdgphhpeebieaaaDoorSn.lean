/-
  WALK: stats.And, the document's Sum.
-/
import Derived.Test.YtdgphhpeebieaaaDoorSt
import Derived.Test.YtdgphhpeebieaaaDoorOr
import Derived.Laws.CopyOwn
namespace Go.Proofs.YtdgphhpeebieaaaDoor
open Go.RowKit FP Hx
set_option linter.unusedVariables false

theorem refSum_any (a b : Int) (ha : Hid (Ct a)) (hb : Hid (Ct b)) (w : World) :
    Calls Tryd.prog 36 #[.int .u64 a, .int .u64 b] w fun e w' => e = .returned (.int .u64 (sumU a b)) ∧ w' = w := by
  obtain ⟨a0, a1⟩ : Ct a := ha
  obtain ⟨b0, b1⟩ : Ct b := hb
  by_cases c : 18446744073709551615 - b < a
  · have fin : Hid (sumU a b = 18446744073709551615) := if_pos c
    have g : IntKind.u64.wrap (a + b) = a + b - 18446744073709551616 := by rw [IntKind.wrap_u64]; omega
    have g1 : a + b - 18446744073709551616 < a := by omega
    go_enter Tryd.func36, Tryd.ntmps36
    go_wp2_with fail
    go_ret
    exact ⟨by rw [fin.out]; rfl, rfl⟩
  · have fin : Hid (sumU a b = a + b) := if_neg c
    have g1 : ¬ a + b < a := by omega
    go_enter Tryd.func36, Tryd.ntmps36
    go_wp2_with fail
    go_ret
    exact ⟨by rw [fin.out]; rfl, rfl⟩

theorem info_st : (Tryd.prog.info? 48).map (·.size) = some 9 := by kernel_rfl
attribute [local go_sem] run_store_flt
theorem cells_one (n0 n1 n2 n3 n4 n5 n6 n7 : Int) (r : Nat) : (cellsOf n0 n1 n2 n3 n4 n5 n6 n7 r).all (·.oneCell') = true := by simp [Value.oneCell']
theorem size_alloc (w : World) (o : Obj) : (w.alloc o).heap.size = w.heap.size + 1 := by simp
/-- of two going rates the greater one -/
def maxW (s t : Nat) : Nat := if 0 < orderI t s then t else s

def statCells (l : List Int) (r : Nat) : Array Value := (l.map (Value.int .u64) ++ [Value.float .f64 r]).toArray
theorem statCells_at {l : List Int} {r k : Nat} {v : Int} (h : l[k]? = some v) : (statCells l r)[k]? = some (.int .u64 v) := by
  obtain ⟨hk, hv⟩ := List.getElem?_eq_some_iff.1 h
  unfold statCells
  rw [List.getElem?_toArray, List.getElem?_append_left (by simpa using hk), List.getElem?_map, h]; rfl
theorem statCells_set {l : List Int} {r k : Nat} (v : Int) (h : k < l.length) : (statCells l r).setIfInBounds k (.int .u64 v) = statCells (l.set k v) r := by
  unfold statCells
  rw [List.setIfInBounds_toArray, List.set_append_left _ _ (by simpa using h), List.map_set]
/-- the first k counts are sums, the others are xs they were -/
def mixed (xs ys : List Int) (k : Nat) : List Int := (List.zipWith sumU xs ys).take k ++ xs.drop k
theorem mixed_at {xs ys : List Int} (hl : xs.length = 8) (hb : ys.length = 8) {k : Nat} (hk : k < 8) : (mixed xs ys k)[k]? = xs[k]? := by
  unfold mixed
  rw [List.getElem?_append_right (by simp [hl, hb]; omega), List.getElem?_drop]
  congr 1
  simp [hl, hb]; omega
theorem mixed_set {xs ys : List Int} (hl : xs.length = 8) (hb : ys.length = 8) {k : Nat} (hk : k < 8) {a b : Int} (ha : xs[k]? = some a) (hb' : ys[k]? = some b) : (mixed xs ys k).set k (sumU a b) = mixed xs ys (k + 1) := by
  apply List.ext_getElem?
  intro j
  unfold mixed
  have hz : (List.zipWith sumU xs ys).length = 8 := by simp [hl, hb]
  by_cases hj : j = k
  · subst hj
    rw [List.getElem?_set_self (by simp [hl, hb]; omega), List.getElem?_append_left (by simp [hl, hb]; omega), List.getElem?_take, if_pos (by omega), List.getElem?_zipWith, ha, hb']
  · rw [List.getElem?_set_ne (by omega)]
    by_cases hlt : j < k
    · rw [List.getElem?_append_left (by simp [hl, hb]; omega), List.getElem?_append_left (by simp [hl, hb]; omega), List.getElem?_take, if_pos hlt, List.getElem?_take, if_pos (by omega)]
    · rw [List.getElem?_append_right (by simp [hl, hb]; omega), List.getElem?_append_right (by simp [hl, hb]; omega), List.getElem?_drop, List.getElem?_drop]
      congr 1
      simp [hl, hb]; omega

set_option maxRecDepth 100000 in
theorem and_any (a0 a1 a2 a3 a4 a5 a6 a7 b0 b1 b2 b3 b4 b5 b6 b7 : Int) (s t : Nat) (hs : Hid (Wd s)) (ht : Hid (Wd t))
    (ha : Hid (∀ x ∈ [a0, a1, a2, a3, a4, a5, a6, a7], Ct x)) (hb : Hid (∀ x ∈ [b0, b1, b2, b3, b4, b5, b6, b7], Ct x)) (w : World) :
    Calls Tryd.prog 34 #[.agg (cellsOf a0 a1 a2 a3 a4 a5 a6 a7 s), .agg (cellsOf b0 b1 b2 b3 b4 b5 b6 b7 t)] w fun e w' =>
      e = .returned (.agg (cellsOf (sumU a0 b0) (sumU a1 b1) (sumU a2 b2) (sumU a3 b3) (sumU a4 b4) (sumU a5 b5) (sumU a6 b6) (sumU a7 b7) (maxW s t))) ∧ Below w.heap.size w w' := by
  obtain ⟨xs, has⟩ : ∃ xs, xs = [a0, a1, a2, a3, a4, a5, a6, a7] := ⟨_, rfl⟩
  obtain ⟨ys, hbs⟩ : ∃ ys, ys = [b0, b1, b2, b3, b4, b5, b6, b7] := ⟨_, rfl⟩
  have hla : xs.length = 8 := by rw [has]; rfl
  have hlb : ys.length = 8 := by rw [hbs]; rfl
  rw [← has] at ha
  rw [← hbs] at hb
  have HA := Lib.hid has
  have HB := Lib.hid hbs
  clear has hbs
  go_enter Tryd.func34, Tryd.ntmps34
  go_wp2_with fail
  go_loopw [5, 6] (fun s5 s6 wr => ∃ (k : Nat) (l : List Int), k ≤ 8 ∧ s6 = .int .i64 k ∧ Hid (l = mixed xs ys k) ∧ Hid (Blk wr w.heap.size 48 (statCells l s)) ∧ Hid (Blk wr (w.heap.size + 1) 48 (cellsOf b0 b1 b2 b3 b4 b5 b6 b7 t)) ∧ Hid (Blk wr (w.heap.size + 1 + 1) 48 (cellsOf 0 0 0 0 0 0 0 0 0)) ∧ Hid (Below w.heap.size w wr)) (fun _ s6 _ => 8 - (intOf s6).toNat)
  case atStart =>
    refine ⟨0, xs, Nat.zero_le _, rfl, by show _ = _; unfold mixed; simp, ?_, ?_, ?_, ?_⟩
    · show Blk _ _ _ _
      rw [HA.out]
      exact ((Blk.new w _ (cellsOf a0 a1 a2 a3 a4 a5 a6 a7 s)).alloc _).alloc _
    · show Blk _ _ _ _
      have h := (Blk.new (w.alloc (.cells (cellsOf a0 a1 a2 a3 a4 a5 a6 a7 s) 48)) 48 (cellsOf b0 b1 b2 b3 b4 b5 b6 b7 t)).alloc (.cells (cellsOf 0 0 0 0 0 0 0 0 0) 48)
      rw [size_alloc] at h
      exact h
    · show Blk _ _ _ _
      have h := Blk.new ((w.alloc (.cells (cellsOf a0 a1 a2 a3 a4 a5 a6 a7 s) 48)).alloc (.cells (cellsOf b0 b1 b2 b3 b4 b5 b6 b7 t) 48)) 48 (cellsOf 0 0 0 0 0 0 0 0 0)
      rw [size_alloc, size_alloc] at h
      exact h
    · exact (((Below.refl _ _).alloc (Nat.le_refl _) _).alloc (by simp) _).alloc (by simp; omega) _
  case round =>
    obtain ⟨k, l, hk, rfl, hl, hA, hB, hR, hbel⟩ := hrel
    by_cases hlt : k < 8
    · obtain ⟨a, ea⟩ : ∃ a, xs[k]? = some a := ⟨_, List.getElem?_eq_getElem (by omega)⟩
      obtain ⟨b, eb⟩ : ∃ b, ys[k]? = some b := ⟨_, List.getElem?_eq_getElem (by omega)⟩
      have Ha : Hid (Ct a) := ha.out a (List.mem_of_getElem? ea)
      have Hb : Hid (Ct b) := hb.out b (List.mem_of_getElem? eb)
      have hc1 : wr.cell? ⟨w.heap.size, k, none⟩ = some (.int .u64 a) := (hA.out.cell k).trans (statCells_at (by rw [hl.out, mixed_at hla hlb hlt]; exact ea))
      have hf1 : wr.frozen? ⟨w.heap.size, k, none⟩ = false := hA.out.frozen k
      have hc2 : wr.cell? ⟨w.heap.size + 1, k, none⟩ = some (.int .u64 b) := (hB.out.cell k).trans (by
        show (statCells [b0, b1, b2, b3, b4, b5, b6, b7] t)[k]? = _
        rw [← HB.out]; exact statCells_at eb)
      have EA := Lib.hid ea; have EB := Lib.hid eb
      clear ea eb
      go_wp2_with fail
      go_region_law (first | (go_simp; go_at_call 57; refine (sum_any _ _ Ha Hb _).mono ?_; rintro e w' ⟨rfl, rfl⟩))
      all_goals
        go_wp2_with fail
        go_roundw
        case rel =>
          refine ⟨k + 1, mixed xs ys (k + 1), by omega, by go_num, rfl, ?_, (hB.out.far (by simp) _).drew, (hR.out.far (by simp; omega) _).drew, below_gb hbel.out (gb_drew (gb_set (gb_refl _ _) (.inl rfl) _)) hbel.out.size (Nat.le_refl _)⟩
          show Blk _ _ _ _
          rw [← mixed_set hla hlb hlt EA.out EB.out, ← hl.out, ← statCells_set _ (by rw [hl.out]; unfold mixed; simp [hla, hlb]; omega)]
          exact (hA.out.set_ k _).drew
        case measure => simp [intOf]; omega
    · obtain rfl : k = 8 := by omega
      have hA' : Hid (Blk wr w.heap.size 48 (cellsOf (sumU a0 b0) (sumU a1 b1) (sumU a2 b2) (sumU a3 b3) (sumU a4 b4) (sumU a5 b5) (sumU a6 b6) (sumU a7 b7) s)) := by
        show Blk _ _ _ _
        have h := hA.out
        rw [hl.out, HA.out, HB.out] at h
        exact h
      clear hA hl
      obtain ⟨c0, c1, c2, c3, c4, c5, c6, c7, c8⟩ := blk9 hA'.out
      have d8 : wr.cell? ⟨w.heap.size + 1, 8, none⟩ = some (.float .f64 t) := hB.out.cell 8
      have f8 : wr.frozen? ⟨w.heap.size, 8, none⟩ = false := hA'.out.frozen 8
      obtain ⟨o, ho⟩ : ∃ o, o = orderI t s := ⟨_, rfl⟩
      have Ho := Lib.hid ho
      by_cases c : 0 < o
      · have fin : Hid (maxW s t = t) := by show _ = _; unfold maxW; rw [← ho, if_pos c]
        clear ho
        go_wp2_with fail
        refine (order_any t s ht hs _).mono ?_
        rintro e w2 ⟨rfl, rfl⟩
        rw [← Ho.out]
        go_upto_region 8 with fail
        refine wp_region_lit ?_
        refine wpList_load_row (by rfl) 48 (.tmp 2) (by rfl) w.heap.size (by rfl) 48 (cellsOf (sumU a0 b0) (sumU a1 b1) (sumU a2 b2) (sumU a3 b3) (sumU a4 b4) (sumU a5 b5) (sumU a6 b6) (sumU a7 b7) t) _ _ (hA'.out.set_ 8 (.float .f64 t)) Tryd.underlying48 rfl info_st ?_
        refine wpList_store_row (by rfl) 48 (.tmp 4) (.tmp 31) (by rfl) (w.heap.size + 1 + 1) (cellsOf (sumU a0 b0) (sumU a1 b1) (sumU a2 b2) (sumU a3 b3) (sumU a4 b4) (sumU a5 b5) (sumU a6 b6) (sumU a7 b7) t) (by rfl) (by rfl) 48 (cellsOf 0 0 0 0 0 0 0 0 0) (hR.out.far (p := ⟨w.heap.size, 8, none⟩) (by simp; omega) (.float .f64 t)) info_st (by rfl) (cells_one _ _ _ _ _ _ _ _ _) ?_
        go_wp2_with fail
        have hR2 := setRow_heap _ _ _ (cellsOf (sumU a0 b0) (sumU a1 b1) (sumU a2 b2) (sumU a3 b3) (sumU a4 b4) (sumU a5 b5) (sumU a6 b6) (sumU a7 b7) t) _ _ (hR.out.far (p := ⟨w.heap.size, 8, none⟩) (by simp; omega) (.float .f64 t))
        rw [fin.out]
        exact ⟨rfl, _, results_cell_row (fn := Tryd.f34) (p := 4) (ty := 48) (by rfl) _ _ (w.heap.size + 1 + 1) 48 _ _ _ (by rfl) hR2 Tryd.underlying48 rfl info_st, rfl, below_setRow (below_gb hbel.out (gb_set (gb_refl _ _) (.inl rfl) _) hbel.out.size (Nat.le_refl _)) (by omega) _⟩
      · have fin : Hid (maxW s t = s) := by show _ = _; unfold maxW; rw [← ho, if_neg c]
        clear ho
        go_wp2_with fail
        refine (order_any t s ht hs _).mono ?_
        rintro e w2 ⟨rfl, rfl⟩
        rw [← Ho.out]
        go_upto_region 8 with fail
        refine wp_region_lit ?_
        refine wpList_load_row (by rfl) 48 (.tmp 2) (by rfl) w.heap.size (by rfl) 48 (cellsOf (sumU a0 b0) (sumU a1 b1) (sumU a2 b2) (sumU a3 b3) (sumU a4 b4) (sumU a5 b5) (sumU a6 b6) (sumU a7 b7) s) _ _ hA'.out Tryd.underlying48 rfl info_st ?_
        refine wpList_store_row (by rfl) 48 (.tmp 4) (.tmp 31) (by rfl) (w.heap.size + 1 + 1) (cellsOf (sumU a0 b0) (sumU a1 b1) (sumU a2 b2) (sumU a3 b3) (sumU a4 b4) (sumU a5 b5) (sumU a6 b6) (sumU a7 b7) s) (by rfl) (by rfl) 48 (cellsOf 0 0 0 0 0 0 0 0 0) hR.out info_st (by rfl) (cells_one _ _ _ _ _ _ _ _ _) ?_
        go_wp2_with fail
        have hR2 := setRow_heap _ _ _ (cellsOf (sumU a0 b0) (sumU a1 b1) (sumU a2 b2) (sumU a3 b3) (sumU a4 b4) (sumU a5 b5) (sumU a6 b6) (sumU a7 b7) s) _ _ hR.out
        rw [fin.out]
        exact ⟨rfl, _, results_cell_row (fn := Tryd.f34) (p := 4) (ty := 48) (by rfl) _ _ (w.heap.size + 1 + 1) 48 _ _ _ (by rfl) hR2 Tryd.underlying48 rfl info_st, rfl, below_setRow hbel.out (by omega) _⟩
end Go.Proofs.YtdgphhpeebieaaaDoor
