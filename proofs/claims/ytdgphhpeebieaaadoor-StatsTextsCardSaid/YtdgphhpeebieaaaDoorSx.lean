/-
  WALK: StatsTexts: of any text there is what is written so, or it is told.
-/
import Derived.Test.YtdgphhpeebieaaaDoorSv
import Derived.Deep.DeepCutAuto
namespace Go.Proofs.YtdgphhpeebieaaaDoor
open Go.RowKit FP Hx
set_option linter.unusedVariables false
set_option linter.unusedSimpArgs false

set_option maxRecDepth 100000 in
set_option maxHeartbeats 4000000 in
theorem statsTexts_walk (s0 : ByteArray) (hs0 : s0.size ≤ maxLen) (m : Int) (w : World) (hm : Hid (w.cell? ⟨4, 0, none⟩ = some (.int .i64 m))) (hT : Hid (Tab16 w)) (h10 : Hid (Tab10 w)) (hE : Hid (ErrV w)) :
    Calls Tryd.prog 12 #[.string s0] w fun e w' => e = .returned (.bool true) ∧ Below w.heap.size w w' := by
  go_enter Tryd.func12, Tryd.ntmps12
  go_wp2_with fail
  refine (sawake_any _).mono ?_
  rintro e wa ⟨rfl, hwa⟩
  have ba : Hid (Below w.heap.size w wa) := hwa
  clear hwa
  go_wp2_with fail
  refine (cut_any s0 200 _).mono ?_
  rintro e w2 ⟨rfl, rfl⟩
  obtain ⟨s, hs⟩ : ∃ s, s = cutB s0 200 := ⟨_, rfl⟩
  have hsz : s.size ≤ 100000 := by rw [hs]; have := cutB_size s0 200; omega
  rw [← hs]
  clear hs
  have hm1 : Hid (w2.cell? ⟨4, 0, none⟩ = some (.int .i64 m)) := (ba.out.cell (World.block_lt_of_cell? w _ hm.out)).trans hm.out
  have T1 : Hid (Tab16 w2) := tab16_keep2 hT.out ba.out
  have D1 : Hid (Tab10 w2) := tab10_keep h10.out ba.out
  have E1 : Hid (ErrV w2) := errV_below hE.out ba.out
  go_wp2_with fail
  refine (parse_any s hsz m _ hm1 T1 D1 E1).mono ?_
  rintro e w3 ⟨xs, r, c, rfl, hb, hn, hr, hc, hfit⟩
  have Nx := Lib.hid hn
  have Hr := Lib.hid hr
  have HC := Lib.hid hc
  have b3 : Hid (Below w.heap.size w w3) := ba.out.trans (hb.mono ba.out.size)
  have hl : Hid (zeroS.size = (cellsN xs r).size) := by show _ = _; simp [cellsN, statCells, Nx.out.1]
  obtain ⟨w4, hw4⟩ : ∃ w4, w4 = (w3.alloc (.cells zeroS 48)).setRow w3.heap.size (cellsN xs r) := ⟨_, rfl⟩
  have W4 := Lib.hid hw4
  have B4 : Hid (Blk w4 w3.heap.size 48 (cellsN xs r)) := by
    show Blk _ _ _ _
    rw [hw4]; exact setRow_heap _ _ _ _ _ _ (Blk.new w3 48 zeroS)
  have b4 : Hid (Below w.heap.size w w4) := by
    show Below _ _ _
    rw [hw4]; exact below_setRow (b3.out.alloc b3.out.size _) b3.out.size _
  clear hn hr hc hfit hb hw4 T1 D1 E1 hm1
  have B5 : Hid (Blk (w4.alloc (.cells zeroS 48)) w3.heap.size 48 (cellsN xs r)) := B4.out.alloc _
  have b5 : Hid (Below w.heap.size w (w4.alloc (.cells zeroS 48))) := b4.out.alloc b4.out.size _
  have T5 : Hid (Tab16 (w4.alloc (.cells zeroS 48))) := tab16_keep2 hT.out b5.out
  have D5 : Hid (Tab10 (w4.alloc (.cells zeroS 48))) := tab10_keep h10.out b5.out
  have N0 : Hid (N8 (List.replicate 8 0)) := ⟨rfl, fun n hn => by rw [List.eq_of_mem_replicate hn]; omega⟩
  have Z5 : Hid (Blk (w4.alloc (.cells zeroS 48)) w4.heap.size 48 (cellsN (List.replicate 8 0) 0)) := Blk.new w4 48 zeroS
  rcases HC.out with ⟨rfl, rfl, rfl⟩ | ⟨rfl, htx⟩
  · go_wp2_with (refine wpList_store_row (by rfl) 48 (.tmp 3) (.tmp 13) (by rfl) w3.heap.size (cellsN (List.replicate 8 0) 0) (by rfl) (by rfl) 48 zeroS (heap_alloc_new w3 _) (info_cellsN (by rfl)) hl.out (cellsN_one _ _) ?_; rw [← W4.out])
    refine wp_region_calm (by kernel_rfl) (by kernel_rfl) ?_
    refine calm_move (by rfl) (.tmp 4) (by rfl) _ (by rfl) ?_
    simp only [Act.put, List.setIfInBounds_toArray, List.set_cons_zero, List.set_cons_succ]
    refine calm_val (by rfl) (v := .bool true) (by intro w' hw; go_simp) ?_
    simp only [Act.put, List.setIfInBounds_toArray, List.set_cons_zero, List.set_cons_succ]
    refine calm_move (by rfl) (.tmp 18) (by rfl) _ (by rfl) ?_
    simp only [Act.put, List.setIfInBounds_toArray, List.set_cons_zero, List.set_cons_succ]
    refine calm_load_row (by rfl) 48 (.tmp 3) (by rfl) (w3.heap.size) (by rfl) 48 (cellsN (List.replicate 8 0) 0) _ _ (fun w' hw => hw.blk B5.out) Tryd.underlying48 rfl (info_cellsN (by rfl)) ?_
    simp only [Act.put, List.setIfInBounds_toArray, List.set_cons_zero, List.set_cons_succ]
    refine calm_call (by rfl) 37 #[.agg (cellsN (List.replicate 8 0) 0)] (by intro w'; go_simp) (fun w' hw => (stext_w (List.replicate 8 0) (0) N0 zero_wd w' (Lib.hid (tab16_keep2 T5.out hw)) (Lib.hid (tab10_keep D5.out hw))).mono fun e w'' ⟨he, hb⟩ => ⟨he, hw.call hb⟩) ?_
    simp only [Act.put, List.setIfInBounds_toArray, List.set_cons_zero, List.set_cons_succ]
    refine calm_load_row (by rfl) 48 (.tmp 5) (by rfl) (w4.heap.size) (by rfl) 48 (cellsN (List.replicate 8 0) 0) _ _ (fun w' hw => hw.blk Z5.out) Tryd.underlying48 rfl (info_cellsN (by rfl)) ?_
    simp only [Act.put, List.setIfInBounds_toArray, List.set_cons_zero, List.set_cons_succ]
    refine calm_call (by rfl) 37 #[.agg (cellsN (List.replicate 8 0) 0)] (by intro w'; go_simp) (fun w' hw => (stext_w (List.replicate 8 0) (0) N0 zero_wd w' (Lib.hid (tab16_keep2 T5.out hw)) (Lib.hid (tab10_keep D5.out hw))).mono fun e w'' ⟨he, hb⟩ => ⟨he, hw.call hb⟩) ?_
    simp only [Act.put, List.setIfInBounds_toArray, List.set_cons_zero, List.set_cons_succ]
    refine calm_val (by rfl) (v := .bool true) (by intro w' hw; go_simp) ?_
    simp only [Act.put, List.setIfInBounds_toArray, List.set_cons_zero, List.set_cons_succ]
    refine calm_val (by rfl) (v := .bool true) (by intro w' hw; go_simp) ?_
    simp only [Act.put, List.setIfInBounds_toArray, List.set_cons_zero, List.set_cons_succ]
    refine calm_assign (by rfl) (.tmp 25) (by rfl) _ (by rfl) ?_
    simp only [Act.put, List.setIfInBounds_toArray, List.set_cons_zero, List.set_cons_succ]
    refine calm_nil ?_
    intro w6 hw6
    have b6 : Hid (Below w.heap.size w w6) := b5.out.trans (hw6.mono b5.out.size)
    go_wp2_with fail
    go_ret
    exact ⟨rfl, b6.out⟩
  · have hst : statText xs r = s.toList := by rw [toList_eq s]; exact htx.symm
    clear htx HC
    go_wp2_with (first | (refine wpList_store_row (by rfl) 48 (.tmp 3) (.tmp 13) (by rfl) w3.heap.size (cellsN xs r) (by rfl) (by rfl) 48 zeroS (heap_alloc_new w3 _) (info_cellsN Nx.out.1) hl.out (cellsN_one _ _) ?_; rw [← W4.out]) | (refine wpList_load_row (by rfl) 48 (.tmp 3) (by rfl) w3.heap.size (by rfl) 48 (cellsN xs r) _ _ B5.out Tryd.underlying48 rfl (info_cellsN Nx.out.1) ?_))
    refine (stext_w xs r Nx Hr _ T5 D5).mono ?_
    rintro e w6 ⟨rfl, hw6⟩
    have b6 : Hid (Below w.heap.size w w6) := b5.out.trans (hw6.mono b5.out.size)
    go_wp2_with fail
    go_ret
    exact ⟨by simp, b6.out⟩
end Go.Proofs.YtdgphhpeebieaaaDoor
