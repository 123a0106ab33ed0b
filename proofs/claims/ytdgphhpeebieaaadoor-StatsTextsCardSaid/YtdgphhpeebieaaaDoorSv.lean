/-
  WALK: stats.Parse.
-/
import Derived.Test.YtdgphhpeebieaaaDoorSq
namespace Go.Proofs.YtdgphhpeebieaaaDoor
open Go.RowKit FP Hx
set_option linter.unusedVariables false
set_option linter.unusedSimpArgs false

theorem wd_rate {b a : Nat} (hb : b < 18446744073709551616) (ha : a < 18446744073709551616) (h : ¬ (b = 0 ∧ a = 0)) : Wd (ratioW b a) :=
  Ieee.double.div_lt (div_some (by omega) (by omega) (fun h1 h2 => h ⟨h1, h2⟩))
theorem blank_rate' {b a : Nat} (hb : b < 18446744073709551616) (ha : a < 18446744073709551616) : (32 : UInt8) ∉ rateT b a := by
  unfold rateT
  by_cases c : b = 0 ∧ a = 0
  · rw [if_pos c]; decide
  · rw [if_neg c]; exact blank_text _ (wd_rate hb ha c)
/-- the words of a text that is a Stats' -/
theorem parse_fits {s : ByteArray} {ns : List Nat} {q : Nat} (hn : N8 ns) (hq : q ≤ one) (h : s.data.toList = statText ns q) :
    Lib.countB s ⟨#[32]⟩ = 9 ∧ (wordsOf s).map (·.data.toList) = ns.map Lib.decDigits ++ [rateT (ns.getD 1 0) (ns.getD 0 0), textL q] := by
  obtain ⟨n0, n1, n2, n3, n4, n5, n6, n7, rfl⟩ := hn.eight
  have h2 := hn.2
  have e : statWords [n0, n1, n2, n3, n4, n5, n6, n7] q = Lib.decDigits n0 :: [Lib.decDigits n1, Lib.decDigits n2, Lib.decDigits n3, Lib.decDigits n4, Lib.decDigits n5, Lib.decDigits n6, Lib.decDigits n7, rateT n1 n0, textL q] := rfl
  unfold statText at h
  rw [e] at h
  obtain ⟨h3, h4⟩ := wordsOf_join h (blank_dec n0) (by
    intro x hx
    simp only [List.mem_cons, List.mem_nil_iff, or_false] at hx
    rcases hx with rfl | rfl | rfl | rfl | rfl | rfl | rfl | rfl | rfl
    iterate 7 exact blank_dec _
    · exact blank_rate' (h2 n1 (by simp)) (h2 n0 (by simp))
    · exact blank_text _ (le_one_wd hq))
  exact ⟨h4, h3⟩
theorem stext_w (xs : List Nat) (r : Nat) (hx : Hid (N8 xs)) (hr : Hid (Wd r)) (w : World) (hT : Hid (Tab16 w)) (h10 : Hid (Tab10 w)) :
    Calls Tryd.prog 37 #[.agg (cellsN xs r)] w fun e w' => e = .returned (.string ⟨(statText xs r).toArray⟩) ∧ Below w.heap.size w w' := by
  obtain ⟨a0, a1, a2, a3, a4, a5, a6, a7, rfl⟩ := hx.out.eight
  exact stext_any a0 a1 a2 a3 a4 a5 a6 a7 r hr.out hx.out.2 w hT h10
theorem cellsN_set {l : List Nat} {r k : Nat} (v : Nat) (h : k < l.length) : (cellsN l r).setIfInBounds k (.int .u64 (v : Int)) = cellsN (l.set k v) r := by
  unfold cellsN
  rw [statCells_set _ (by simpa using h), List.map_set]
theorem cellsN_float (l : List Nat) (r r' : Nat) (h : l.length = 8) : (cellsN l r).setIfInBounds 8 (.float .f64 r') = cellsN l r' := by
  obtain ⟨n0, n1, n2, n3, n4, n5, n6, n7, rfl⟩ := eight_of h
  rfl
theorem results_two {P : Program} {fn : Func} {t1 : TypeId} (h : fn.results = #[.cell 2 t1, .tmp 3]) (tmps : Array Value) (w : World) (g : Nat) (t : TypeId) (cs : Array Value) (fr : Nat × Nat) (d : TypeDesc) (v : Value)
    (hp : tmps.getD 2 undef = .pointer (some ⟨g, 0, none⟩)) (hg : w.heap[g]? = some (.cells cs t fr))
    (hu : P.underlying t1 = some d) (hd : (match d with | .struct _ | .array _ _ => true | _ => false) = true) (hi : (P.info? t1).map (·.size) = some cs.size) (hv : tmps.getD 3 undef = v) :
    (results fn tmps).run P w = .ok (.tuple #[.agg cs, v]) w := by
  have q : tmps[2]?.getD undef = .pointer (some ⟨g, 0, none⟩) := by simpa using hp
  have q2 : tmps[3]?.getD undef = v := by simpa using hv
  simp [results, h, q, q2, asAddr, run_loadVar_row w g t t1 cs fr d hg hu hd hi]

theorem split_size (k : Nat) (s : ByteArray) : ∀ x ∈ Lib.splitB ⟨#[32]⟩ 0 k s, x.size ≤ s.size := by
  induction k generalizing s with
  | zero => intro x hx; rw [Lib.splitB_zero, List.mem_singleton] at hx; rw [hx]; exact Nat.le_refl _
  | succ k ih =>
    intro x hx
    rcases Lib.indexB_cases s ⟨#[32]⟩ with h | ⟨i, h, _⟩
    · rw [Lib.splitB_miss _ _ _ _ h, List.mem_singleton] at hx; rw [hx]; exact Nat.le_refl _
    · rw [Lib.splitB_hit _ _ _ _ i h] at hx
      rcases List.mem_cons.1 hx with rfl | h2
      · rw [ByteArray.size_extract]; omega
      · have := ih _ x h2
        rw [ByteArray.size_extract] at this; omega
theorem bits_one {q r : Nat} (hq : q ≤ one) (h : bitsB q r = true) : q = r := by
  unfold bitsB at h
  rw [isNot_le_one hq] at h
  simpa using h
theorem fits_list {l ns : List Nat} {W : List ByteArray} {a b : List UInt8} (hl : N8 l) (hn : N8 ns) (h : W.map (·.data.toList) = ns.map Lib.decDigits ++ [a, b])
    (hf : ∀ i < 8, ∀ v x, W[i]? = some x → Lib.parseUintB 64 x.data.toList = .ok v → l[i]? = some v) : l = ns := by
  apply List.ext_getElem?
  intro i
  by_cases hi : i < 8
  · have h1 := congrArg (fun (L : List (List UInt8)) => L[i]?) h
    simp only [List.getElem?_map] at h1
    rw [List.getElem?_append_left (by simp [hn.1]; omega), List.getElem?_map] at h1
    obtain ⟨n, en⟩ : ∃ n, ns[i]? = some n := ⟨_, List.getElem?_eq_getElem (by rw [hn.1]; exact hi)⟩
    rw [en] at h1 ⊢
    cases ex : W[i]? with
    | none => rw [ex] at h1; cases h1
    | some x =>
      rw [ex] at h1
      have h2 : x.data.toList = Lib.decDigits n := by simpa using h1
      exact hf i hi n x ex (by rw [h2]; exact puB_dec n (hn.2 n (List.mem_of_getElem? en)))
  · rw [List.getElem?_eq_none (by rw [hl.1]; omega), List.getElem?_eq_none (by rw [hn.1]; omega)]
theorem toList_eq (s : ByteArray) : s.toList = s.data.toList := by
  have h : (s.toList == s.toList) = true := beq_self_eq_true _
  exact (str_of h).symm
theorem orderI_self (q : Nat) : orderI q q = 0 := orderI_zero.2 rfl
/-- what Parse answers at s -/
def Parsed (s : ByteArray) (w : World) (e : Ending) (w' : World) : Prop :=
  ∃ (xs : List Nat) (r : Nat) (c : Int), e = .returned (.tuple #[.agg (cellsN xs r), .int .i64 c]) ∧ Below w.heap.size w w' ∧ N8 xs ∧ Wd r ∧
    ((c = 4 ∧ xs = List.replicate 8 0 ∧ r = 0) ∨ (c = 0 ∧ s.data.toList = statText xs r)) ∧ (∀ ns q, N8 ns → q ≤ one → s.data.toList = statText ns q → c = 0)
attribute [local go_sem] run_store_flt

set_option maxRecDepth 100000 in
set_option maxHeartbeats 4000000 in
theorem parse_any (s : ByteArray) (hs : s.size ≤ 100000) (m : Int) (w : World) (hm : Hid (w.cell? ⟨4, 0, none⟩ = some (.int .i64 m))) (hT : Hid (Tab16 w)) (h10 : Hid (Tab10 w)) (hE : Hid (ErrV w)) :
    Calls Tryd.prog 42 #[.string s] w (Parsed s w) := by
  have hm1 : Hid ((w.alloc (.cells zeroS 48)).cell? ⟨4, 0, none⟩ = some (.int .i64 m)) :=
    (((Below.refl w.heap.size w).alloc (Nat.le_refl _) (.cells zeroS 48)).cell (World.block_lt_of_cell? w _ hm.out)).trans hm.out
  obtain ⟨ks, hks⟩ : ∃ ks, ks = Lib.countB s ⟨#[32]⟩ := ⟨_, rfl⟩
  have HK := Lib.hid hks
  clear hks
  by_cases h9 : ks = 9
  · subst h9
    obtain ⟨W, hW⟩ : ∃ W, W = Lib.splitB ⟨#[32]⟩ 0 9 s := ⟨_, rfl⟩
    have HW := Lib.hid hW
    have hWs : wordsOf s = W := by unfold wordsOf; rw [← HK.out, HW.out]
    have hWl : Hid (W.length = 10) := by
      have := wordsOf_len s
      rw [hWs, ← HK.out] at this
      exact this
    have hWz : Hid (∀ x ∈ W, x.size ≤ 281474976710656) := fun x hx => Nat.le_trans (split_size 9 s x (by rw [← HW.out]; exact hx)) (by omega)
    have HS := Lib.hid hWs
    clear hW hWs
    have t1 : ((((9 : Nat) : Int) + 1) == 10) = true := rfl
    go_enter Tryd.func42, Tryd.ntmps42
    go_wp2_with fail
    refine (Tryd.strings_Split s ⟨#[32]⟩ m _ (by omega) hm1.out (by decide)).mono ?_
    rintro e w1 ⟨rfl, rfl⟩
    rw [← HK.out, ← HW.out]
    go_wp2_with fail
    go_loopw [13] (fun s13 wr => ∃ (k : Nat) (l : List Nat), k ≤ 8 ∧ s13 = .int .i64 k ∧ Hid (N8 l ∧ ∀ i < k, ∀ v x, W[i]? = some x → Lib.parseUintB 64 x.data.toList = .ok v → l[i]? = some v) ∧ Hid (Blk wr (w.heap.size + 1 + 1) 48 (cellsN l 0)) ∧ Hid (Blk wr (w.heap.size + 1) 9 (W.map Value.string).toArray) ∧ Hid (Blk wr w.heap.size 48 zeroS) ∧ Hid (Below w.heap.size w wr)) (fun s13 _ => 8 - (intOf s13).toNat)
    case atStart =>
      refine ⟨0, List.replicate 8 0, Nat.zero_le _, rfl, ⟨⟨rfl, fun n hn => by rw [List.eq_of_mem_replicate hn]; omega⟩, fun i hi => absurd hi (Nat.not_lt_zero _)⟩, ?_, ?_, ?_, ?_⟩
      · have h := Blk.new ((w.alloc (.cells zeroS 48)).alloc (.cells (W.map Value.string).toArray 9)) 48 zeroS
        rw [size_alloc, size_alloc] at h
        exact h
      · have h := (Blk.new (w.alloc (.cells zeroS 48)) 9 (W.map Value.string).toArray).alloc (.cells zeroS 48)
        rw [size_alloc] at h
        exact h
      · exact ((Blk.new w 48 zeroS).alloc _).alloc _
      · exact (((Below.refl _ _).alloc (Nat.le_refl _) _).alloc (by simp) _).alloc (by simp; omega) _
    case round =>
      obtain ⟨k, l, hk, rfl, hl, hB, hWb, hZ, hbel⟩ := hrel
      by_cases hlt : k < 8
      · obtain ⟨x, ex⟩ : ∃ x, W[k]? = some x := ⟨_, List.getElem?_eq_getElem (by have := hWl.out; omega)⟩
        have EX := Lib.hid ex
        have hxz : x.size ≤ 281474976710656 := hWz.out x (List.mem_of_getElem? ex)
        have cx : wr.cell? ⟨w.heap.size + 1, k, none⟩ = some (.string x) := (hWb.out.cell k).trans (by rw [List.getElem?_toArray, List.getElem?_map, ex]; rfl)
        have hEr : Hid (ErrV wr) := errV_below hE.out hbel.out
        have k10 : (k : Int) < 9 + 1 := by omega
        clear ex
        go_wp2_with fail
        refine (pu10_any x hxz _ hEr).mono ?_
        rintro e w2 ⟨u, err, rfl, hu, hv, hb2⟩
        have Hb2 := Lib.hid hb2
        have b2 : Hid (Blk w2 (w.heap.size + 1 + 1) 48 (cellsN l 0)) := hB.out.below hb2 hB.out.lt
        have hk8 : k < l.length := by have := hl.out.1.1; omega
        obtain ⟨y, ey⟩ : ∃ y, l[k]? = some y := ⟨_, List.getElem?_eq_getElem hk8⟩
        have c2 : w2.cell? ⟨w.heap.size + 1 + 1, k, none⟩ = some (.int .u64 (y : Int)) := (b2.out.cell k).trans (cellsN_at ey)
        have f2 : w2.frozen? ⟨w.heap.size + 1 + 1, k, none⟩ = false := b2.out.frozen k
        clear hb2 ey
        go_wp2_with fail
        go_roundw
        case rel =>
          refine ⟨k + 1, l.set k u, by omega, by go_num, ⟨⟨by rw [List.length_set]; exact hl.out.1.1, fun n hn => ?_⟩, fun i hi v x' hx' hv' => ?_⟩, ?_, ?_, ?_, ?_⟩
          · rcases List.mem_or_eq_of_mem_set hn with h | h
            · exact hl.out.1.2 n h
            · rw [h]; exact hu.out
          · by_cases e : i = k
            · subst e
              rw [EX.out] at hx'
              injection hx' with hx'
              subst hx'
              rw [List.getElem?_set_self hk8, hv.out v hv']
            · rw [List.getElem?_set_ne (fun h => e h.symm)]
              exact hl.out.2 i (by omega) v x' hx' hv'
          · have h := b2.out.set_ k (.int .u64 (u : Int))
            rw [cellsN_set u hk8] at h
            exact h
          · exact (hWb.out.below Hb2.out hWb.out.lt).far (by simp) _
          · exact (hZ.out.below Hb2.out hZ.out.lt).far (by simp; omega) _
          · exact (hbel.out.trans (Hb2.out.mono hbel.out.size)).setCell (by simp; omega) _
        case measure => simp [intOf]; omega
      · obtain rfl : k = 8 := by omega
        obtain ⟨x, ex⟩ : ∃ x, W[9]? = some x := ⟨_, List.getElem?_eq_getElem (by have := hWl.out; omega)⟩
        have EX := Lib.hid ex
        have hxz : x.size ≤ 281474976710656 := hWz.out x (List.mem_of_getElem? ex)
        have cx : wr.cell? ⟨w.heap.size + 1, 9, none⟩ = some (.string x) := (hWb.out.cell 9).trans (by rw [List.getElem?_toArray, List.getElem?_map, ex]; rfl)
        have hEr : Hid (ErrV wr) := errV_below hE.out hbel.out
        have hTr : Hid (Tab16 wr) := tab16_keep2 hT.out hbel.out
        have hDr : Hid (Tab10 wr) := tab10_keep h10.out hbel.out
        clear ex
        go_wp2_with fail
        refine (cparse_any x hxz _ hTr hEr).mono ?_
        rintro e w2 ⟨r, ok, rfl, hr, _, _, hfit, hb2⟩
        have b2 : Hid (Blk w2 (w.heap.size + 1 + 1) 48 (cellsN l 0)) := hB.out.below hb2 hB.out.lt
        have c8 : w2.cell? ⟨w.heap.size + 1 + 1, 8, none⟩ = some (.float .f64 0) := (b2.out.cell 8).trans (by
          obtain ⟨n0, n1, n2, n3, n4, n5, n6, n7, rfl⟩ := hl.out.1.eight
          rfl)
        have f8 : w2.frozen? ⟨w.heap.size + 1 + 1, 8, none⟩ = false := b2.out.frozen 8
        obtain ⟨w3, hw3⟩ : ∃ w3, w3 = w2.setCell ⟨w.heap.size + 1 + 1, 8, none⟩ (.float .f64 r) := ⟨_, rfl⟩
        have W3 := Lib.hid hw3
        have B3 : Hid (Blk w3 (w.heap.size + 1 + 1) 48 (cellsN l r)) := by
          show Blk _ _ _ _
          rw [hw3, ← cellsN_float l 0 r hl.out.1.1]
          exact b2.out.set_ 8 _
        have Z3 : Hid (Blk w3 w.heap.size 48 zeroS) := by
          show Blk _ _ _ _
          rw [hw3]; exact (hZ.out.below hb2 hZ.out.lt).far (by simp; omega) _
        have E3 : Hid (Below w.heap.size w w3) := by
          show Below _ _ _
          rw [hw3]; exact (hbel.out.trans (hb2.mono hbel.out.size)).setCell (by simp; omega) _
        have T3 : Hid (Tab16 w3) := tab16_keep2 hT.out E3.out
        have D3 : Hid (Tab10 w3) := tab10_keep h10.out E3.out
        have g8 : Hid (w3.cell? ⟨w.heap.size + 1 + 1, 8, none⟩ = some (.float .f64 r)) := (B3.out.cell 8).trans (by
          obtain ⟨n0, n1, n2, n3, n4, n5, n6, n7, rfl⟩ := hl.out.1.eight
          rfl)
        have N8l : Hid (N8 l) := hl.out.1
        have FIT : Hid (∀ ns q, N8 ns → q ≤ one → s.data.toList = statText ns q → l = ns ∧ r = q) := by
          intro ns q hns hq h
          obtain ⟨h1, h2⟩ := parse_fits hns hq h
          rw [HS.out] at h2
          refine ⟨fits_list N8l.out hns h2 hl.out.2, ?_⟩
          have h3 : x.data.toList = textL q := by
            have h4 := congrArg (fun (L : List (List UInt8)) => L[9]?) h2
            simp only [List.getElem?_map, EX.out] at h4
            rw [List.getElem?_append_right (by simp [hns.1])] at h4
            simpa [hns.1] using h4
          have h5 := (hfit.out q (le_one_wd hq) h3).2
          exact (bits_one hq h5).symm
        clear hw3 hb2 hfit hl hB hWb hZ b2 hTr hDr hEr cx
        go_wp2_with fail
        rw [← W3.out]
        by_cases htx : statText l r = s.data.toList
        · have HTX := Lib.hid htx
          have hst : statText l r = s.toList := by rw [htx]; exact (toList_eq s).symm
          obtain ⟨o, ho⟩ : ∃ o, o = orderI (clampW r) r := ⟨_, rfl⟩
          have HO := Lib.hid ho
          clear htx
          by_cases hz : o = 0
          · subst hz
            clear ho
            refine wp_region_calm (by kernel_rfl) (by kernel_rfl) ?_
            refine calm_load_row (by rfl) 48 (.tmp 5) (by rfl) (w.heap.size + 1 + 1) (by rfl) 48 (cellsN l r) _ _ (fun w' hw => hw.blk B3.out) Tryd.underlying48 rfl (info_cellsN N8l.out.1) ?_
            simp only [Act.put, List.setIfInBounds_toArray, List.set_cons_zero, List.set_cons_succ]
            refine calm_call (by rfl) 37 #[.agg (cellsN l r)] (by intro w'; go_simp) (fun w' hw => (stext_w l r N8l hr w' (Lib.hid (tab16_keep2 T3.out hw)) (Lib.hid (tab10_keep D3.out hw))).mono fun e w'' ⟨he, hb⟩ => ⟨he, hw.call hb⟩) ?_
            simp only [Act.put, List.setIfInBounds_toArray, List.set_cons_zero, List.set_cons_succ]
            refine calm_move (by rfl) (.tmp 0) (by rfl) _ (by rfl) ?_
            simp only [Act.put, List.setIfInBounds_toArray, List.set_cons_zero, List.set_cons_succ]
            refine calm_val (by rfl) (v := .bool false) (by intro w' hw; go_simp) ?_
            simp only [Act.put, List.setIfInBounds_toArray, List.set_cons_zero, List.set_cons_succ]
            refine calm_move (by rfl) (.tmp 39) (by rfl) _ (by rfl) ?_
            simp only [Act.put, List.setIfInBounds_toArray, List.set_cons_zero, List.set_cons_succ]
            refine calm_val (by rfl) (v := .pointer (some ⟨w.heap.size + 1 + 1, 8, none⟩)) (by intro w' hw; go_simp) ?_
            simp only [Act.put, List.setIfInBounds_toArray, List.set_cons_zero, List.set_cons_succ]
            refine calm_val (by rfl) (v := .float .f64 r) (by intro w' hw; have h := hw.cell g8.out; go_simp) ?_
            simp only [Act.put, List.setIfInBounds_toArray, List.set_cons_zero, List.set_cons_succ]
            refine calm_call (by rfl) 27 #[.float .f64 r] (by intro w'; go_simp) (fun w' hw => (clamp_any r hr w').mono fun e w'' ⟨he, hb⟩ => ⟨he, hb ▸ hw⟩) ?_
            simp only [Act.put, List.setIfInBounds_toArray, List.set_cons_zero, List.set_cons_succ]
            refine calm_val (by rfl) (v := .pointer (some ⟨w.heap.size + 1 + 1, 8, none⟩)) (by intro w' hw; go_simp) ?_
            simp only [Act.put, List.setIfInBounds_toArray, List.set_cons_zero, List.set_cons_succ]
            refine calm_val (by rfl) (v := .float .f64 r) (by intro w' hw; have h := hw.cell g8.out; go_simp) ?_
            simp only [Act.put, List.setIfInBounds_toArray, List.set_cons_zero, List.set_cons_succ]
            refine calm_call (by rfl) 30 #[.float .f64 (clampW r), .float .f64 r] (by intro w'; go_simp) (fun w' hw => (order_any (clampW r) r (clampW_wd r) hr w').mono fun e w'' ⟨he, hb⟩ => ⟨he.trans (by rw [← HO.out]), hb ▸ hw⟩) ?_
            simp only [Act.put, List.setIfInBounds_toArray, List.set_cons_zero, List.set_cons_succ]
            refine calm_val (by rfl) (v := .bool false) (by intro w' hw; go_simp) ?_
            simp only [Act.put, List.setIfInBounds_toArray, List.set_cons_zero, List.set_cons_succ]
            refine calm_val (by rfl) (v := .bool false) (by intro w' hw; go_simp) ?_
            simp only [Act.put, List.setIfInBounds_toArray, List.set_cons_zero, List.set_cons_succ]
            refine calm_nil ?_
            intro w4 hw4
            have Z4 := Lib.hid (hw4.blk Z3.out)
            have B4 := Lib.hid (hw4.blk B3.out)
            have E4 := Lib.hid (E3.out.trans (hw4.mono E3.out.size))
            clear hw4
            have hsz : Hid (zeroS.size = (cellsN l r).size) := by show _ = _; simp [cellsN, statCells, N8l.out.1]
            go_upto_region 13 with fail
            refine wp_region_lit ?_
            refine wpList_load_row (by rfl) 48 (.tmp 5) (by rfl) (w.heap.size + 1 + 1) (by rfl) 48 (cellsN l r) _ _ B4.out Tryd.underlying48 rfl (info_cellsN N8l.out.1) ?_
            go_wp2_with (refine wpList_store_row (by rfl) 48 (.tmp 2) (.tmp 50) (by rfl) w.heap.size (cellsN l r) (by rfl) (by rfl) 48 zeroS Z4.out (info_cellsN N8l.out.1) hsz.out (cellsN_one _ _) ?_)
            exact ⟨rfl, _, results_two (fn := Tryd.f42) (by rfl) _ _ w.heap.size 48 (cellsN l r) _ _ (.int .i64 0) (by rfl) (setRow_heap _ _ _ (cellsN l r) _ _ Z4.out) Tryd.underlying48 rfl (info_cellsN N8l.out.1) (by rfl), l, r, 0, rfl, below_setRow E4.out (Nat.le_refl _) _, N8l.out, hr.out, .inr ⟨rfl, HTX.out.symm⟩, fun _ _ _ _ _ => rfl⟩
          · have hoz : (o == 0) = false := beq_eq_false_iff_ne.2 hz
            have HZ := Lib.hid hz
            clear ho
            refine wp_region_calm (by kernel_rfl) (by kernel_rfl) ?_
            refine calm_load_row (by rfl) 48 (.tmp 5) (by rfl) (w.heap.size + 1 + 1) (by rfl) 48 (cellsN l r) _ _ (fun w' hw => hw.blk B3.out) Tryd.underlying48 rfl (info_cellsN N8l.out.1) ?_
            simp only [Act.put, List.setIfInBounds_toArray, List.set_cons_zero, List.set_cons_succ]
            refine calm_call (by rfl) 37 #[.agg (cellsN l r)] (by intro w'; go_simp) (fun w' hw => (stext_w l r N8l hr w' (Lib.hid (tab16_keep2 T3.out hw)) (Lib.hid (tab10_keep D3.out hw))).mono fun e w'' ⟨he, hb⟩ => ⟨he, hw.call hb⟩) ?_
            simp only [Act.put, List.setIfInBounds_toArray, List.set_cons_zero, List.set_cons_succ]
            refine calm_move (by rfl) (.tmp 0) (by rfl) _ (by rfl) ?_
            simp only [Act.put, List.setIfInBounds_toArray, List.set_cons_zero, List.set_cons_succ]
            refine calm_val (by rfl) (v := .bool false) (by intro w' hw; go_simp) ?_
            simp only [Act.put, List.setIfInBounds_toArray, List.set_cons_zero, List.set_cons_succ]
            refine calm_move (by rfl) (.tmp 39) (by rfl) _ (by rfl) ?_
            simp only [Act.put, List.setIfInBounds_toArray, List.set_cons_zero, List.set_cons_succ]
            refine calm_val (by rfl) (v := .pointer (some ⟨w.heap.size + 1 + 1, 8, none⟩)) (by intro w' hw; go_simp) ?_
            simp only [Act.put, List.setIfInBounds_toArray, List.set_cons_zero, List.set_cons_succ]
            refine calm_val (by rfl) (v := .float .f64 r) (by intro w' hw; have h := hw.cell g8.out; go_simp) ?_
            simp only [Act.put, List.setIfInBounds_toArray, List.set_cons_zero, List.set_cons_succ]
            refine calm_call (by rfl) 27 #[.float .f64 r] (by intro w'; go_simp) (fun w' hw => (clamp_any r hr w').mono fun e w'' ⟨he, hb⟩ => ⟨he, hb ▸ hw⟩) ?_
            simp only [Act.put, List.setIfInBounds_toArray, List.set_cons_zero, List.set_cons_succ]
            refine calm_val (by rfl) (v := .pointer (some ⟨w.heap.size + 1 + 1, 8, none⟩)) (by intro w' hw; go_simp) ?_
            simp only [Act.put, List.setIfInBounds_toArray, List.set_cons_zero, List.set_cons_succ]
            refine calm_val (by rfl) (v := .float .f64 r) (by intro w' hw; have h := hw.cell g8.out; go_simp) ?_
            simp only [Act.put, List.setIfInBounds_toArray, List.set_cons_zero, List.set_cons_succ]
            refine calm_call (by rfl) 30 #[.float .f64 (clampW r), .float .f64 r] (by intro w'; go_simp) (fun w' hw => (order_any (clampW r) r (clampW_wd r) hr w').mono fun e w'' ⟨he, hb⟩ => ⟨he.trans (by rw [← HO.out]), hb ▸ hw⟩) ?_
            simp only [Act.put, List.setIfInBounds_toArray, List.set_cons_zero, List.set_cons_succ]
            refine calm_val (by rfl) (v := .bool true) (by intro w' hw; go_simp) ?_
            simp only [Act.put, List.setIfInBounds_toArray, List.set_cons_zero, List.set_cons_succ]
            refine calm_val (by rfl) (v := .bool true) (by intro w' hw; go_simp) ?_
            simp only [Act.put, List.setIfInBounds_toArray, List.set_cons_zero, List.set_cons_succ]
            refine calm_nil ?_
            intro w4 hw4
            have Z4 := Lib.hid (hw4.blk Z3.out)
            have E4 := Lib.hid (E3.out.trans (hw4.mono E3.out.size))
            clear hw4
            go_upto_region 12 with fail
            refine wp_region_lit ?_
            go_wp2_with (refine wpList_store_row (by rfl) 48 (.tmp 2) (.tmp 49) (by rfl) w.heap.size zeroS (by rfl) (by rfl) 48 zeroS Z4.out info_st (by rfl) (cells_one _ _ _ _ _ _ _ _ _) ?_)
            exact ⟨rfl, _, results_two (fn := Tryd.f42) (by rfl) _ _ w.heap.size 48 zeroS _ _ (.int .i64 4) (by rfl) (setRow_heap _ _ _ zeroS _ _ Z4.out) Tryd.underlying48 rfl info_st (by rfl), List.replicate 8 0, 0, 4, rfl, below_setRow E4.out (Nat.le_refl _) _, ⟨rfl, fun n hn => by rw [List.eq_of_mem_replicate hn]; omega⟩, zero_wd.out, .inl ⟨rfl, rfl, rfl⟩, fun ns q hn hq h => by
              obtain ⟨_, h2⟩ := FIT.out ns q hn hq h
              exact absurd (HO.out.trans (by rw [h2, clampW_self hq]; exact orderI_self q)) HZ.out⟩
        · have HTX := Lib.hid htx
          have hst : ¬ statText l r = s.toList := by rw [toList_eq s]; exact htx
          clear htx
          refine wp_region_calm (by kernel_rfl) (by kernel_rfl) ?_
          refine calm_load_row (by rfl) 48 (.tmp 5) (by rfl) (w.heap.size + 1 + 1) (by rfl) 48 (cellsN l r) _ _ (fun w' hw => hw.blk B3.out) Tryd.underlying48 rfl (info_cellsN N8l.out.1) ?_
          simp only [Act.put, List.setIfInBounds_toArray, List.set_cons_zero, List.set_cons_succ]
          refine calm_call (by rfl) 37 #[.agg (cellsN l r)] (by intro w'; go_simp) (fun w' hw => (stext_w l r N8l hr w' (Lib.hid (tab16_keep2 T3.out hw)) (Lib.hid (tab10_keep D3.out hw))).mono fun e w'' ⟨he, hb⟩ => ⟨he, hw.call hb⟩) ?_
          simp only [Act.put, List.setIfInBounds_toArray, List.set_cons_zero, List.set_cons_succ]
          refine calm_move (by rfl) (.tmp 0) (by rfl) _ (by rfl) ?_
          simp only [Act.put, List.setIfInBounds_toArray, List.set_cons_zero, List.set_cons_succ]
          refine calm_val (by rfl) (v := .bool true) (by intro w' hw; go_simp) ?_
          simp only [Act.put, List.setIfInBounds_toArray, List.set_cons_zero, List.set_cons_succ]
          refine calm_move (by rfl) (.tmp 39) (by rfl) _ (by rfl) ?_
          simp only [Act.put, List.setIfInBounds_toArray, List.set_cons_zero, List.set_cons_succ]
          refine calm_skip (by rfl) ?_
          simp only [Act.put, List.setIfInBounds_toArray, List.set_cons_zero, List.set_cons_succ]
          refine calm_skip (by rfl) ?_
          simp only [Act.put, List.setIfInBounds_toArray, List.set_cons_zero, List.set_cons_succ]
          refine calm_skip (by rfl) ?_
          simp only [Act.put, List.setIfInBounds_toArray, List.set_cons_zero, List.set_cons_succ]
          refine calm_skip (by rfl) ?_
          simp only [Act.put, List.setIfInBounds_toArray, List.set_cons_zero, List.set_cons_succ]
          refine calm_skip (by rfl) ?_
          simp only [Act.put, List.setIfInBounds_toArray, List.set_cons_zero, List.set_cons_succ]
          refine calm_skip (by rfl) ?_
          simp only [Act.put, List.setIfInBounds_toArray, List.set_cons_zero, List.set_cons_succ]
          refine calm_skip (by rfl) ?_
          simp only [Act.put, List.setIfInBounds_toArray, List.set_cons_zero, List.set_cons_succ]
          refine calm_val (by rfl) (v := .bool true) (by intro w' hw; go_simp) ?_
          simp only [Act.put, List.setIfInBounds_toArray, List.set_cons_zero, List.set_cons_succ]
          refine calm_nil ?_
          intro w4 hw4
          have Z4 := Lib.hid (hw4.blk Z3.out)
          have E4 := Lib.hid (E3.out.trans (hw4.mono E3.out.size))
          clear hw4
          go_upto_region 12 with fail
          refine wp_region_lit ?_
          go_wp2_with (refine wpList_store_row (by rfl) 48 (.tmp 2) (.tmp 49) (by rfl) w.heap.size zeroS (by rfl) (by rfl) 48 zeroS Z4.out info_st (by rfl) (cells_one _ _ _ _ _ _ _ _ _) ?_)
          exact ⟨rfl, _, results_two (fn := Tryd.f42) (by rfl) _ _ w.heap.size 48 zeroS _ _ (.int .i64 4) (by rfl) (setRow_heap _ _ _ zeroS _ _ Z4.out) Tryd.underlying48 rfl info_st (by rfl), List.replicate 8 0, 0, 4, rfl, below_setRow E4.out (Nat.le_refl _) _, ⟨rfl, fun n hn => by rw [List.eq_of_mem_replicate hn]; omega⟩, zero_wd.out, .inl ⟨rfl, rfl, rfl⟩, fun ns q hn hq h => by
            obtain ⟨h1, h2⟩ := FIT.out ns q hn hq h
            exact absurd (by rw [h1, h2]; exact h.symm) HTX.out⟩
  · have t1 : ((((ks : Int) + 1)) == 10) = false := beq_eq_false_iff_ne.2 (by omega)
    go_enter Tryd.func42, Tryd.ntmps42
    go_wp2_with fail
    refine (Tryd.strings_Split s ⟨#[32]⟩ m _ (by omega) hm1.out (by decide)).mono ?_
    rintro e w1 ⟨rfl, rfl⟩
    rw [← HK.out]
    go_wp2_with fail
    exact ⟨rfl, _, results_two (fn := Tryd.f42) (by rfl) _ _ w.heap.size 48 zeroS _ _ (.int .i64 4) (by rfl) ((Blk.new w 48 zeroS).alloc _) Tryd.underlying48 rfl info_st (by rfl), List.replicate 8 0, 0, 4, rfl, ((Below.refl _ _).alloc (Nat.le_refl _) _).alloc (by simp) _, ⟨rfl, fun n hn => by rw [List.eq_of_mem_replicate hn]; omega⟩, zero_wd.out, .inl ⟨rfl, rfl, rfl⟩, fun ns q hn hq h => absurd (HK.out.trans (parse_fits hn hq h).1) h9⟩
end Go.Proofs.YtdgphhpeebieaaaDoor
