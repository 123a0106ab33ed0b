/-
  WALK: StatsAnd: counts of both, together.
-/
import Derived.Test.YtdgphhpeebieaaaDoorSo
import Derived.Test.YtdgphhpeebieaaaDoorKa
import Derived.Deep.DeepCutAuto
import Derived.Deep.LoopGhost
namespace Go.Proofs.YtdgphhpeebieaaaDoor
open Go.RowKit FP Hx
set_option linter.unusedVariables false
set_option linter.unusedSimpArgs false

theorem EvAt.below {w w' : World} {a : Addr} {k : Int} {n : Nat} {h : Bool} {b : Nat} (e : EvAt w a k n h b) (hb : Below w.heap.size w w') : EvAt w' a k n h b := by
  obtain ⟨h0, h1, h2, h3, h4, h5, h6⟩ := e
  exact ⟨Nat.lt_of_lt_of_le h0 hb.size, (hb.cell h0).trans h1, (hb.cell (p := ⟨a.block, a.off + 1, none⟩) h0).trans h2, (hb.cell (p := ⟨a.block, a.off + 2, none⟩) h0).trans h3, (hb.cell (p := ⟨a.block, a.off + 3, none⟩) h0).trans h4, h5, h6⟩
theorem evs_below {w w' : World} {A : Option Addr} {len : Nat} (h : ∀ i < len, ∃ a, A = some a ∧ ∃ k n h b, EvAt w (a.add (i * 4)) k n h b) (hb : Below w.heap.size w w') : ∀ i < len, ∃ a, A = some a ∧ ∃ k n h b, EvAt w' (a.add (i * 4)) k n h b := by
  intro i hi
  obtain ⟨a, h1, k, n, h, b, e⟩ := h i hi
  exact ⟨a, h1, k, n, h, b, e.below hb⟩

attribute [local go_sem] run_store_flt
abbrev w8 (n0 n1 n2 n3 n4 n5 n6 n7 : Int) : Array Value := #[.int .u64 n0, .int .u64 n1, .int .u64 n2, .int .u64 n3, .int .u64 n4, .int .u64 n5, .int .u64 n6, .int .u64 n7]
theorem of_eight (A : Option Addr) (len cap : Nat) (hlc : len ≤ cap) (hcm : cap ≤ maxLen) (w : World) (hev : Hid (∀ i < len, ∃ a, A = some a ∧ ∃ k n h b, EvAt w (a.add (i * 4)) k n h b)) :
    Calls Tryd.prog 33 #[.slice A len cap] w fun e w' => ∃ (n0 n1 n2 n3 n4 n5 n6 n7 r : Nat), (∀ n ∈ [n0, n1, n2, n3, n4, n5, n6, n7], n < 18446744073709551616) ∧ r ≤ one ∧
      e = .returned (.tuple #[.agg (cellsOf n0 n1 n2 n3 n4 n5 n6 n7 r), .agg (w8 n0 n1 n2 n3 n4 n5 n6 n7), .float .f64 r]) ∧ Below w.heap.size w w' :=
  (of_any A len cap hlc hcm w hev).mono fun e w' ⟨n0, n1, n2, n3, n4, n5, n6, n7, r, h1, h2, h3, h4⟩ => ⟨n0, n1, n2, n3, n4, n5, n6, n7, r, h1, h2, h3, h4⟩

/-- the sum that stops at 2^64 - 1 -/
def sumN (a b : Nat) : Nat := if 18446744073709551615 < a + b then 18446744073709551615 else a + b
theorem sumU_nat {a b : Nat} : sumU (a : Int) (b : Int) = (sumN a b : Nat) := by
  unfold sumU sumN
  split <;> split <;> omega
theorem sumN_lt {a b : Nat} : sumN a b < 18446744073709551616 := by unfold sumN; split <;> omega
theorem sumN_comm (a b : Nat) : sumN a b = sumN b a := by unfold sumN; rw [Nat.add_comm]
theorem sumN_assoc (a b c : Nat) : sumN (sumN a b) c = sumN a (sumN b c) := by unfold sumN; repeat' split <;> try omega
theorem sumN_zero {a : Nat} (h : a < 18446744073709551616) : sumN a 0 = a := by unfold sumN; rw [if_neg (by omega)]; omega
def sums (xs ys : List Nat) : List Nat := List.zipWith sumN xs ys
theorem sums_len {xs ys : List Nat} (hx : xs.length = 8) (hy : ys.length = 8) : (sums xs ys).length = 8 := by simp [sums, hx, hy]
theorem sums_comm (xs ys : List Nat) : sums xs ys = sums ys xs := List.zipWith_comm_of_comm sumN_comm
theorem sums_assoc : ∀ (xs ys zs : List Nat), sums (sums xs ys) zs = sums xs (sums ys zs)
  | [], _, _ => rfl
  | _ :: _, [], _ => rfl
  | _ :: _, _ :: _, [] => rfl
  | x :: xs, y :: ys, z :: zs => by
    show sumN (sumN x y) z :: sums (sums xs ys) zs = sumN x (sumN y z) :: sums xs (sums ys zs)
    rw [sumN_assoc, sums_assoc xs ys zs]
theorem sums_zero {xs : List Nat} (hx : ∀ n ∈ xs, n < 18446744073709551616) : sums xs (List.replicate xs.length 0) = xs := by
  induction xs with
  | nil => rfl
  | cons x xs ih =>
    show sumN x 0 :: sums xs (List.replicate xs.length 0) = _
    rw [sumN_zero (hx x (by simp)), ih (fun n hn => hx n (by simp [hn]))]
theorem sums_lt : ∀ {xs ys : List Nat}, ∀ n ∈ sums xs ys, n < 18446744073709551616
  | [], _, n, h => by simp [sums] at h
  | _ :: _, [], n, h => by simp [sums] at h
  | x :: xs, y :: ys, n, h => by
    rcases List.mem_cons.1 (show n ∈ sumN x y :: sums xs ys from h) with rfl | h1
    · exact sumN_lt
    · exact sums_lt n h1
theorem T_one {x : Nat} (h : x ≤ one) : T x = x := by
  unfold T
  rw [isNot_le_one h]
  unfold one at h
  rw [if_neg (by decide), if_pos (by omega)]
theorem maxW_eq {s t : Nat} (hs : s ≤ one) (ht : t ≤ one) : maxW s t = max s t := by
  have h1 : orderI t s ≤ 0 ↔ T t ≤ T s := orderI_le
  have h2 : T t ≤ T s ↔ t ≤ s := by rw [T_one ht, T_one hs]; omega
  unfold maxW
  by_cases c : 0 < orderI t s
  · rw [if_pos c]
    have : ¬ t ≤ s := fun h => by have := h1.2 (h2.2 h); omega
    omega
  · rw [if_neg c]
    have := h2.1 (h1.1 (by omega))
    omega
def cellsN (l : List Nat) (r : Nat) : Array Value := statCells (l.map (fun n : Nat => (n : Int))) r
def wantN (l : List Nat) : Array Value := wantCells (l.map (fun n : Nat => (n : Int)))
/-- eight numbers of 64 bits -/
def N8 (l : List Nat) : Prop := l.length = 8 ∧ ∀ n ∈ l, n < 18446744073709551616
theorem eight_of {α : Type} {l : List α} (h : l.length = 8) : ∃ n0 n1 n2 n3 n4 n5 n6 n7, l = [n0, n1, n2, n3, n4, n5, n6, n7] := by
  rcases l with _ | ⟨n0, _ | ⟨n1, _ | ⟨n2, _ | ⟨n3, _ | ⟨n4, _ | ⟨n5, _ | ⟨n6, _ | ⟨n7, _ | ⟨n8, l⟩⟩⟩⟩⟩⟩⟩⟩⟩ <;> simp at h
  exact ⟨_, _, _, _, _, _, _, _, rfl⟩
theorem N8.eight {l : List Nat} (h : N8 l) : ∃ n0 n1 n2 n3 n4 n5 n6 n7, l = [n0, n1, n2, n3, n4, n5, n6, n7] := eight_of h.1
theorem N8.ct {n0 n1 n2 n3 n4 n5 n6 n7 : Nat} (h : N8 [n0, n1, n2, n3, n4, n5, n6, n7]) : ∀ x ∈ [(n0 : Int), n1, n2, n3, n4, n5, n6, n7], Ct x := by
  intro x hx
  simp only [List.mem_cons, List.mem_nil_iff, or_false] at hx
  have h := h.2
  simp only [List.mem_cons, List.mem_nil_iff, or_false] at h
  unfold Ct
  rcases hx with rfl | rfl | rfl | rfl | rfl | rfl | rfl | rfl
  · have := h n0 (by simp); omega
  · have := h n1 (by simp); omega
  · have := h n2 (by simp); omega
  · have := h n3 (by simp); omega
  · have := h n4 (by simp); omega
  · have := h n5 (by simp); omega
  · have := h n6 (by simp); omega
  · have := h n7 (by simp); omega
theorem sums_n8 {xs ys : List Nat} (hx : N8 xs) (hy : N8 ys) : N8 (sums xs ys) := ⟨sums_len hx.1 hy.1, sums_lt⟩
theorem and_l (xs ys : List Nat) (r s : Nat) (hx : Hid (N8 xs)) (hy : Hid (N8 ys)) (hr : Hid (r ≤ one)) (hs : Hid (s ≤ one)) (w : World) :
    Calls Tryd.prog 34 #[.agg (cellsN xs r), .agg (cellsN ys s)] w fun e w' => e = .returned (.agg (cellsN (sums xs ys) (max r s))) ∧ Below w.heap.size w w' := by
  obtain ⟨a0, a1, a2, a3, a4, a5, a6, a7, rfl⟩ := hx.out.eight
  obtain ⟨b0, b1, b2, b3, b4, b5, b6, b7, rfl⟩ := hy.out.eight
  refine (and_any a0 a1 a2 a3 a4 a5 a6 a7 b0 b1 b2 b3 b4 b5 b6 b7 r s (le_one_wd hr.out) (le_one_wd hs.out) hx.out.ct hy.out.ct w).mono ?_
  rintro e w' ⟨rfl, hb⟩
  refine ⟨?_, hb⟩
  simp only [sumU_nat, maxW_eq hr.out hs.out]
  rfl
theorem stext_l (xs : List Nat) (r : Nat) (hx : Hid (N8 xs)) (hr : Hid (r ≤ one)) (w : World) (hT : Hid (Tab16 w)) (h10 : Hid (Tab10 w)) :
    Calls Tryd.prog 37 #[.agg (cellsN xs r)] w fun e w' => e = .returned (.string ⟨(statText xs r).toArray⟩) ∧ Below w.heap.size w w' := by
  obtain ⟨a0, a1, a2, a3, a4, a5, a6, a7, rfl⟩ := hx.out.eight
  exact stext_any a0 a1 a2 a3 a4 a5 a6 a7 r (le_one_wd hr.out) hx.out.2 w hT h10
theorem info_cellsN {l : List Nat} {r : Nat} (h : l.length = 8) : (Tryd.prog.info? 48).map (·.size) = some (cellsN l r).size := by
  rw [info_st]; simp [cellsN, statCells, h]
theorem cellsN_one (l : List Nat) (r : Nat) : (cellsN l r).all (·.oneCell') = true := by
  simp [cellsN, statCells, Value.oneCell', Array.all_eq_true]
theorem cellsN_at {l : List Nat} {r k : Nat} {v : Nat} (h : l[k]? = some v) : (cellsN l r)[k]? = some (.int .u64 (v : Int)) := statCells_at (by rw [List.getElem?_map, h]; rfl)
theorem wantN_at {l : List Nat} {k : Nat} {v : Nat} (h : l[k]? = some v) : (wantN l)[k]? = some (.int .u64 (v : Int)) := wantCells_at (by rw [List.getElem?_map, h]; rfl)

/-- the boxes of x, p, y, q, z -/
def Five (w0 : World) (g1 g2 g3 : Nat) (xs ys zs : List Nat) (r s t : Nat) (w : World) : Prop :=
  (N8 xs ∧ N8 ys ∧ N8 zs) ∧ (r ≤ one ∧ s ≤ one ∧ t ≤ one) ∧ Below w0.heap.size w0 w ∧
    Blk w g1 48 (cellsN xs r) ∧ Blk w (g1 + 1) 46 (wantN xs) ∧ Blk w g2 48 (cellsN ys s) ∧ Blk w (g2 + 1) 46 (wantN ys) ∧ Blk w g3 48 (cellsN zs t)

set_option maxRecDepth 100000 in
set_option maxHeartbeats 4000000 in
theorem statsAnd_walk (A1 A2 A3 : Option Addr) (len1 cap1 len2 cap2 len3 cap3 : Nat) (hlc1 : Hid (len1 ≤ cap1 ∧ cap1 ≤ maxLen)) (hlc2 : Hid (len2 ≤ cap2 ∧ cap2 ≤ maxLen)) (hlc3 : Hid (len3 ≤ cap3 ∧ cap3 ≤ maxLen)) (w : World)
    (hev1 : Hid (∀ i < len1, ∃ a, A1 = some a ∧ ∃ k n h b, EvAt w (a.add (i * 4)) k n h b)) (hev2 : Hid (∀ i < len2, ∃ a, A2 = some a ∧ ∃ k n h b, EvAt w (a.add (i * 4)) k n h b)) (hev3 : Hid (∀ i < len3, ∃ a, A3 = some a ∧ ∃ k n h b, EvAt w (a.add (i * 4)) k n h b))
    (hT : Hid (Tab16 w)) (h10 : Hid (Tab10 w)) :
    Calls Tryd.prog 9 #[.slice A1 len1 cap1, .slice A2 len2 cap2, .slice A3 len3 cap3] w fun e w' => e = .returned (.bool true) ∧ Below w.heap.size w w' := by
  go_enter Tryd.func9, Tryd.ntmps9
  go_wp2_with fail
  refine (sawake_any _).mono ?_
  rintro e wa ⟨rfl, hwa⟩
  have ba : Hid (Below w.heap.size w wa) := hwa
  have ev1 := Lib.hid (evs_below hev1.out hwa)
  clear hwa
  go_wp2_with fail
  refine (of_eight A1 len1 cap1 hlc1.out.1 hlc1.out.2 _ ev1).mono ?_
  rintro e wb ⟨a0, a1, a2, a3, a4, a5, a6, a7, r, ha, hr, rfl, hwb⟩
  have Ha := Lib.hid ha
  have Hr := Lib.hid hr
  have bb : Hid (Below w.heap.size w wb) := ba.out.trans (hwb.mono ba.out.size)
  have ev2 := Lib.hid (evs_below hev2.out bb.out)
  clear ha hr hwb ba ev1
  go_wp2_with fail
  refine (of_eight A2 len2 cap2 hlc2.out.1 hlc2.out.2 _ (Lib.hid (evs_below ev2.out (((Below.refl wb.heap.size wb).alloc (Nat.le_refl _) _).alloc (by simp) _)))).mono ?_
  rintro e wc ⟨b0, b1, b2, b3, b4, b5, b6, b7, s, hb, hs, rfl, hwc⟩
  have Hb := Lib.hid hb
  have Hs := Lib.hid hs
  have X1 : Hid (Blk wc wb.heap.size 48 (cellsN [a0, a1, a2, a3, a4, a5, a6, a7] r)) := ((Blk.new wb 48 (cellsOf a0 a1 a2 a3 a4 a5 a6 a7 r)).alloc _).below hwc (by simp; omega)
  have P1 : Hid (Blk wc (wb.heap.size + 1) 46 (wantN [a0, a1, a2, a3, a4, a5, a6, a7])) := by
    have h := (Blk.new (wb.alloc (.cells (cellsOf a0 a1 a2 a3 a4 a5 a6 a7 r) 48)) 46 (w8 a0 a1 a2 a3 a4 a5 a6 a7)).below hwc (by simp)
    rw [size_alloc] at h
    exact h
  have bc : Hid (Below w.heap.size w wc) := ((bb.out.alloc bb.out.size _).alloc (by have := bb.out.size; simp; omega) _).trans (hwc.mono (by have := bb.out.size; simp; omega))
  have ev3 := Lib.hid (evs_below hev3.out bc.out)
  have hbc : wb.heap.size + 1 < wc.heap.size := P1.out.lt
  clear hb hs hwc ev2
  go_upto_region 5 with fail
  go_cut [7, 8, 10, 11, 13] (fun s7 s8 s10 s11 s13 wx => ∃ (g1 g2 g3 : Nat) (xs ys zs : List Nat) (r s t : Nat), s7 = .pointer (some ⟨g1, 0, none⟩) ∧ s8 = .pointer (some ⟨g1 + 1, 0, none⟩) ∧ s10 = .pointer (some ⟨g2, 0, none⟩) ∧ s11 = .pointer (some ⟨g2 + 1, 0, none⟩) ∧ s13 = .pointer (some ⟨g3, 0, none⟩) ∧ Hid (Five w g1 g2 g3 xs ys zs r s t wx))
  case first =>
    go_wp2_with fail
    refine (of_eight A3 len3 cap3 hlc3.out.1 hlc3.out.2 _ (Lib.hid (evs_below ev3.out (((Below.refl wc.heap.size wc).alloc (Nat.le_refl _) _).alloc (by simp) _)))).mono ?_
    rintro e wd ⟨c0, c1, c2, c3, c4, c5, c6, c7, t, hc, ht, rfl, hwd⟩
    have Hc := Lib.hid hc
    have Ht := Lib.hid ht
    have X2 : Hid (Blk wd wb.heap.size 48 (cellsN [a0, a1, a2, a3, a4, a5, a6, a7] r)) := ((X1.out.alloc _).alloc _).below hwd (by simp; omega)
    have P2 : Hid (Blk wd (wb.heap.size + 1) 46 (wantN [a0, a1, a2, a3, a4, a5, a6, a7])) := ((P1.out.alloc _).alloc _).below hwd (by simp; omega)
    have Y2 : Hid (Blk wd wc.heap.size 48 (cellsN [b0, b1, b2, b3, b4, b5, b6, b7] s)) := ((Blk.new wc 48 (cellsOf b0 b1 b2 b3 b4 b5 b6 b7 s)).alloc _).below hwd (by simp; omega)
    have Q2 : Hid (Blk wd (wc.heap.size + 1) 46 (wantN [b0, b1, b2, b3, b4, b5, b6, b7])) := by
      have h := (Blk.new (wc.alloc (.cells (cellsOf b0 b1 b2 b3 b4 b5 b6 b7 s) 48)) 46 (w8 b0 b1 b2 b3 b4 b5 b6 b7)).below hwd (by simp)
      rw [size_alloc] at h
      exact h
    have bd : Hid (Below w.heap.size w wd) := ((bc.out.alloc bc.out.size _).alloc (by have := bc.out.size; simp; omega) _).trans (hwd.mono (by have := bc.out.size; simp; omega))
    clear hc ht hwd ev3
    go_wp2_with fail
    go_meet
    refine ⟨wb.heap.size, wc.heap.size, wd.heap.size, [a0, a1, a2, a3, a4, a5, a6, a7], [b0, b1, b2, b3, b4, b5, b6, b7], [c0, c1, c2, c3, c4, c5, c6, c7], r, s, t, rfl, rfl, rfl, rfl, rfl, ⟨⟨rfl, Ha.out⟩, ⟨rfl, Hb.out⟩, rfl, Hc.out⟩, ⟨Hr.out, Hs.out, Ht.out⟩, ?_, ?_, ?_, ?_, ?_, ?_⟩
    · exact (bd.out.alloc bd.out.size _).alloc (by have := bd.out.size; simp; omega) _
    · exact (X2.out.alloc _).alloc _
    · exact (P2.out.alloc _).alloc _
    · exact (Y2.out.alloc _).alloc _
    · exact (Q2.out.alloc _).alloc _
    · exact (Blk.new wd 48 (cellsOf c0 c1 c2 c3 c4 c5 c6 c7 t)).alloc _
  case rest =>
    obtain ⟨g1, g2, g3, xs, ys, zs, r, s, t, rfl, rfl, rfl, rfl, rfl, hF⟩ := hcut
    obtain ⟨nx, ny, nz⟩ := hF.out.1
    obtain ⟨lr, ls, lt⟩ := hF.out.2.1
    have Nx := Lib.hid nx; have Ny := Lib.hid ny; have Nz := Lib.hid nz; have Lr := Lib.hid lr; have Ls := Lib.hid ls; have Lt := Lib.hid lt
    have Nxy : Hid (N8 (sums xs ys)) := sums_n8 Nx.out Ny.out
    have Lrs : Hid (max r s ≤ one) := by show _ ≤ _; omega
    have hl : Hid ((cellsOf 0 0 0 0 0 0 0 0 0).size = (cellsN (sums xs ys) (max r s)).size) := by
      show _ = _
      simp [cellsN, statCells, Nxy.out.1]
    have hg := hF.out.2.2.2.1.lt
    clear nx ny nz lr ls lt
    go_upto_region 6 with fail
    refine wp_region_lit ?_
    refine wpList_load_row (by rfl) 48 (.tmp 7) (by rfl) g1 (by rfl) 48 (cellsN xs r) _ _ hF.out.2.2.2.1 Tryd.underlying48 rfl (info_cellsN Nx.out.1) ?_
    refine wpList_load_row (by rfl) 48 (.tmp 10) (by rfl) g2 (by rfl) 48 (cellsN ys s) _ _ hF.out.2.2.2.2.2.1 Tryd.underlying48 rfl (info_cellsN Ny.out.1) ?_
    go_wp2_with fail
    refine (and_l xs ys r s Nx Ny Lr Ls _).mono ?_
    rintro e we ⟨rfl, hwe⟩
    obtain ⟨wf, hwf⟩ : ∃ wf, wf = (we.alloc (.cells (cellsOf 0 0 0 0 0 0 0 0 0) 48)).setRow we.heap.size (cellsN (sums xs ys) (max r s)) := ⟨_, rfl⟩
    have Hwf := Lib.hid hwf
    have Bf : Hid (Blk wf we.heap.size 48 (cellsN (sums xs ys) (max r s))) := by
      show Blk _ _ _ _
      rw [hwf]; exact setRow_heap _ _ _ _ _ _ (Blk.new we 48 (cellsOf 0 0 0 0 0 0 0 0 0))
    have hz := hF.out.2.2.1.size
    have bl : Bl wc wf := by
      show Below _ _ _
      rw [hwf]; exact below_setRow (hwe.alloc hwe.size _) hwe.size _
    have BL := Lib.hid bl
    clear hwf bl
    go_wp2_with (refine wpList_store_row (by rfl) 48 (.tmp 16) (.tmp 41) (by rfl) we.heap.size (cellsN (sums xs ys) (max r s)) (by rfl) (by rfl) 48 (cellsOf 0 0 0 0 0 0 0 0 0) (heap_alloc_new we _) (info_cellsN Nxy.out.1) hl.out (cellsN_one _ _) ?_; rw [← Hwf.out])
    go_loopw [42] (fun s42 wr => ∃ k : Nat, k ≤ 8 ∧ s42 = .int .i64 k ∧ Hid (Bl wf wr)) (fun s42 _ => 8 - (intOf s42).toNat)
    case atStart => exact ⟨0, Nat.zero_le _, rfl, Bl.self _⟩
    case round =>
      obtain ⟨k, hk, rfl, hB⟩ := hrel
      have B4 : Hid (Blk wr we.heap.size 48 (cellsN (sums xs ys) (max r s))) := hB.out.blk Bf.out
      have hB0 : Hid (Bl wc wr) := BL.out.trans (hB.out.mono BL.out.size)
      by_cases hlt : k < 8
      · obtain ⟨x, ex⟩ : ∃ x, xs[k]? = some x := ⟨_, List.getElem?_eq_getElem (by rw [Nx.out.1]; exact hlt)⟩
        obtain ⟨y, ey⟩ : ∃ y, ys[k]? = some y := ⟨_, List.getElem?_eq_getElem (by rw [Ny.out.1]; exact hlt)⟩
        have hxy : Hid ((cellsN (sums xs ys) (max r s))[k]? = some (.int .u64 ((sumN x y : Nat) : Int))) := by
          refine cellsN_at ?_
          unfold sums; rw [List.getElem?_zipWith, ex, ey]
        have hx : Hid (Ct x) := by have := Nx.out.2 x (List.mem_of_getElem? ex); show Ct _; unfold Ct; omega
        have hy : Hid (Ct y) := by have := Ny.out.2 y (List.mem_of_getElem? ey); show Ct _; unfold Ct; omega
        have cx : Hid (wr.cell? ⟨g1 + 1, k, none⟩ = some (.int .u64 x)) := ((hB0.out.blk hF.out.2.2.2.2.1).cell k).trans (wantN_at ex)
        have cy : Hid (wr.cell? ⟨g2 + 1, k, none⟩ = some (.int .u64 y)) := ((hB0.out.blk hF.out.2.2.2.2.2.2.1).cell k).trans (wantN_at ey)
        clear ex ey
        go_wp2_with fail
        refine wp_region_calm (by kernel_rfl) (by kernel_rfl) ?_
        refine calm_load_row (by rfl) 48 (.tmp 16) (by rfl) we.heap.size (by rfl) 48 (cellsN (sums xs ys) (max r s)) _ _ (fun w hw => hw.blk B4.out) Tryd.underlying48 rfl (info_cellsN Nxy.out.1) ?_
        simp only [Act.put, List.setIfInBounds_toArray, List.set_cons_zero, List.set_cons_succ]
        refine calm_move (by rfl) (.tmp 17) (by rfl) _ (by rfl) ?_
        simp only [Act.put, List.setIfInBounds_toArray, List.set_cons_zero, List.set_cons_succ]
        refine calm_call (by rfl) 35 #[.agg (cellsN (sums xs ys) (max r s)), .int .i64 k] (by intro w; go_simp) (fun w hw => (count_any k hlt _ _ hxy.out w).mono fun e w' ⟨he, hb⟩ => ⟨he, hw.call hb⟩) ?_
        simp only [Act.put, List.setIfInBounds_toArray, List.set_cons_zero, List.set_cons_succ]
        refine calm_move (by rfl) (.tmp 17) (by rfl) _ (by rfl) ?_
        simp only [Act.put, List.setIfInBounds_toArray, List.set_cons_zero, List.set_cons_succ]
        refine calm_val (by rfl) (v := .pointer (some ⟨g1 + 1, k, none⟩)) (by intro w hw; go_simp) ?_
        simp only [Act.put, List.setIfInBounds_toArray, List.set_cons_zero, List.set_cons_succ]
        refine calm_val (by rfl) (v := .int .u64 x) (by intro w hw; have h := hw.cell cx.out; go_simp) ?_
        simp only [Act.put, List.setIfInBounds_toArray, List.set_cons_zero, List.set_cons_succ]
        refine calm_move (by rfl) (.tmp 17) (by rfl) _ (by rfl) ?_
        simp only [Act.put, List.setIfInBounds_toArray, List.set_cons_zero, List.set_cons_succ]
        refine calm_val (by rfl) (v := .pointer (some ⟨g2 + 1, k, none⟩)) (by intro w hw; go_simp) ?_
        simp only [Act.put, List.setIfInBounds_toArray, List.set_cons_zero, List.set_cons_succ]
        refine calm_val (by rfl) (v := .int .u64 y) (by intro w hw; have h := hw.cell cy.out; go_simp) ?_
        simp only [Act.put, List.setIfInBounds_toArray, List.set_cons_zero, List.set_cons_succ]
        refine calm_call (by rfl) 36 #[.int .u64 x, .int .u64 y] (by intro w; go_simp) (fun w hw => (refSum_any x y hx hy w).mono fun e w' ⟨he, hb⟩ => ⟨by rw [he, sumU_nat], hb ▸ hw⟩) ?_
        simp only [Act.put, List.setIfInBounds_toArray, List.set_cons_zero, List.set_cons_succ]
        refine calm_val (by rfl) (v := .bool false) (by intro w hw; go_simp) ?_
        simp only [Act.put, List.setIfInBounds_toArray, List.set_cons_zero, List.set_cons_succ]
        refine calm_nil ?_
        intro w2 hw2
        have HB2 : Hid (Bl wf w2) := hB.out.trans (hw2.mono hB.out.size)
        go_wp2_with fail
        go_roundw
        case rel => exact ⟨k + 1, by omega, by go_num, HB2.out⟩
        case measure => simp [intOf]; omega
      · obtain rfl : k = 8 := by omega
        have W14 : Hid (Below w.heap.size w (wr.alloc (.cells zeroS 48))) := (hF.out.2.2.1.trans (hB0.out.mono hF.out.2.2.1.size)).alloc (Nat.le_trans hF.out.2.2.1.size hB0.out.size) _
        have T14 : Hid (Tab16 (wr.alloc (.cells zeroS 48))) := tab16_keep2 hT.out W14.out
        have D14 : Hid (Tab10 (wr.alloc (.cells zeroS 48))) := tab10_keep h10.out W14.out
        have F1 : Hid (Blk (wr.alloc (.cells zeroS 48)) g1 48 (cellsN xs r)) := (hB0.out.blk hF.out.2.2.2.1).alloc _
        have F2 : Hid (Blk (wr.alloc (.cells zeroS 48)) g2 48 (cellsN ys s)) := (hB0.out.blk hF.out.2.2.2.2.2.1).alloc _
        have F3 : Hid (Blk (wr.alloc (.cells zeroS 48)) g3 48 (cellsN zs t)) := (hB0.out.blk hF.out.2.2.2.2.2.2.2).alloc _
        have F4 : Hid (Blk (wr.alloc (.cells zeroS 48)) we.heap.size 48 (cellsN (sums xs ys) (max r s))) := B4.out.alloc _
        have F5 : Hid (Blk (wr.alloc (.cells zeroS 48)) wr.heap.size 48 (cellsN (List.replicate 8 0) 0)) := Blk.new wr 48 zeroS
        have Nxyz : Hid (N8 (sums (sums xs ys) zs)) := sums_n8 Nxy.out Nz.out
        have Nyz : Hid (N8 (sums ys zs)) := sums_n8 Ny.out Nz.out
        have N0 : Hid (N8 (List.replicate 8 0)) := ⟨rfl, fun n hn => by rw [List.eq_of_mem_replicate hn]; omega⟩
        have Lrst : Hid (max (max r s) t ≤ one) := Nat.max_le.2 ⟨Lrs.out, Lt.out⟩
        have Lst : Hid (max s t ≤ one) := Nat.max_le.2 ⟨Ls.out, Lt.out⟩
        have hx0 : Hid (sums xs (List.replicate 8 0) = xs) := by
          have h := sums_zero Nx.out.2
          rw [Nx.out.1] at h
          exact h
        go_wp2_with fail
        refine wp_region_calm (by kernel_rfl) (by kernel_rfl) ?_
        refine calm_load_row (by rfl) 48 (.tmp 16) (by rfl) (we.heap.size) (by rfl) 48 (cellsN (sums xs ys) (max r s)) _ _ (fun w hw => hw.blk F4.out) Tryd.underlying48 rfl (info_cellsN Nxy.out.1) ?_
        simp only [Act.put, List.setIfInBounds_toArray, List.set_cons_zero, List.set_cons_succ]
        refine calm_call (by rfl) 37 #[.agg (cellsN (sums xs ys) (max r s))] (by intro w; go_simp) (fun w hw => (stext_l (sums xs ys) (max r s) Nxy Lrs w (Lib.hid (tab16_keep2 T14.out hw)) (Lib.hid (tab10_keep D14.out hw))).mono fun e w' ⟨he, hb⟩ => ⟨he, hw.call hb⟩) ?_
        simp only [Act.put, List.setIfInBounds_toArray, List.set_cons_zero, List.set_cons_succ]
        refine calm_load_row (by rfl) 48 (.tmp 10) (by rfl) (g2) (by rfl) 48 (cellsN ys s) _ _ (fun w hw => hw.blk F2.out) Tryd.underlying48 rfl (info_cellsN Ny.out.1) ?_
        simp only [Act.put, List.setIfInBounds_toArray, List.set_cons_zero, List.set_cons_succ]
        refine calm_load_row (by rfl) 48 (.tmp 7) (by rfl) (g1) (by rfl) 48 (cellsN xs r) _ _ (fun w hw => hw.blk F1.out) Tryd.underlying48 rfl (info_cellsN Nx.out.1) ?_
        simp only [Act.put, List.setIfInBounds_toArray, List.set_cons_zero, List.set_cons_succ]
        refine calm_call (by rfl) 34 #[.agg (cellsN ys s), .agg (cellsN xs r)] (by intro w; go_simp) (fun w hw => (and_l ys xs s r Ny Nx Ls Lr w).mono fun e w' ⟨he, hb⟩ => ⟨by rw [he, sums_comm ys xs, Nat.max_comm s r], hw.call hb⟩) ?_
        simp only [Act.put, List.setIfInBounds_toArray, List.set_cons_zero, List.set_cons_succ]
        refine calm_call (by rfl) 37 #[.agg (cellsN (sums xs ys) (max r s))] (by intro w; go_simp) (fun w hw => (stext_l (sums xs ys) (max r s) Nxy Lrs w (Lib.hid (tab16_keep2 T14.out hw)) (Lib.hid (tab10_keep D14.out hw))).mono fun e w' ⟨he, hb⟩ => ⟨he, hw.call hb⟩) ?_
        simp only [Act.put, List.setIfInBounds_toArray, List.set_cons_zero, List.set_cons_succ]
        refine calm_val (by rfl) (v := .bool true) (by intro w hw; go_simp) ?_
        simp only [Act.put, List.setIfInBounds_toArray, List.set_cons_zero, List.set_cons_succ]
        refine calm_move (by rfl) (.tmp 63) (by rfl) _ (by rfl) ?_
        simp only [Act.put, List.setIfInBounds_toArray, List.set_cons_zero, List.set_cons_succ]
        refine calm_load_row (by rfl) 48 (.tmp 16) (by rfl) (we.heap.size) (by rfl) 48 (cellsN (sums xs ys) (max r s)) _ _ (fun w hw => hw.blk F4.out) Tryd.underlying48 rfl (info_cellsN Nxy.out.1) ?_
        simp only [Act.put, List.setIfInBounds_toArray, List.set_cons_zero, List.set_cons_succ]
        refine calm_load_row (by rfl) 48 (.tmp 13) (by rfl) (g3) (by rfl) 48 (cellsN zs t) _ _ (fun w hw => hw.blk F3.out) Tryd.underlying48 rfl (info_cellsN Nz.out.1) ?_
        simp only [Act.put, List.setIfInBounds_toArray, List.set_cons_zero, List.set_cons_succ]
        refine calm_call (by rfl) 34 #[.agg (cellsN (sums xs ys) (max r s)), .agg (cellsN zs t)] (by intro w; go_simp) (fun w hw => (and_l (sums xs ys) zs (max r s) t Nxy Nz Lrs Lt w).mono fun e w' ⟨he, hb⟩ => ⟨he, hw.call hb⟩) ?_
        simp only [Act.put, List.setIfInBounds_toArray, List.set_cons_zero, List.set_cons_succ]
        refine calm_call (by rfl) 37 #[.agg (cellsN (sums (sums xs ys) zs) (max (max r s) t))] (by intro w; go_simp) (fun w hw => (stext_l (sums (sums xs ys) zs) (max (max r s) t) Nxyz Lrst w (Lib.hid (tab16_keep2 T14.out hw)) (Lib.hid (tab10_keep D14.out hw))).mono fun e w' ⟨he, hb⟩ => ⟨he, hw.call hb⟩) ?_
        simp only [Act.put, List.setIfInBounds_toArray, List.set_cons_zero, List.set_cons_succ]
        refine calm_load_row (by rfl) 48 (.tmp 7) (by rfl) (g1) (by rfl) 48 (cellsN xs r) _ _ (fun w hw => hw.blk F1.out) Tryd.underlying48 rfl (info_cellsN Nx.out.1) ?_
        simp only [Act.put, List.setIfInBounds_toArray, List.set_cons_zero, List.set_cons_succ]
        refine calm_load_row (by rfl) 48 (.tmp 10) (by rfl) (g2) (by rfl) 48 (cellsN ys s) _ _ (fun w hw => hw.blk F2.out) Tryd.underlying48 rfl (info_cellsN Ny.out.1) ?_
        simp only [Act.put, List.setIfInBounds_toArray, List.set_cons_zero, List.set_cons_succ]
        refine calm_load_row (by rfl) 48 (.tmp 13) (by rfl) (g3) (by rfl) 48 (cellsN zs t) _ _ (fun w hw => hw.blk F3.out) Tryd.underlying48 rfl (info_cellsN Nz.out.1) ?_
        simp only [Act.put, List.setIfInBounds_toArray, List.set_cons_zero, List.set_cons_succ]
        refine calm_call (by rfl) 34 #[.agg (cellsN ys s), .agg (cellsN zs t)] (by intro w; go_simp) (fun w hw => (and_l ys zs s t Ny Nz Ls Lt w).mono fun e w' ⟨he, hb⟩ => ⟨he, hw.call hb⟩) ?_
        simp only [Act.put, List.setIfInBounds_toArray, List.set_cons_zero, List.set_cons_succ]
        refine calm_call (by rfl) 34 #[.agg (cellsN xs r), .agg (cellsN (sums ys zs) (max s t))] (by intro w; go_simp) (fun w hw => (and_l xs (sums ys zs) r (max s t) Nx Nyz Lr Lst w).mono fun e w' ⟨he, hb⟩ => ⟨by rw [he, ← sums_assoc, ← Nat.max_assoc], hw.call hb⟩) ?_
        simp only [Act.put, List.setIfInBounds_toArray, List.set_cons_zero, List.set_cons_succ]
        refine calm_call (by rfl) 37 #[.agg (cellsN (sums (sums xs ys) zs) (max (max r s) t))] (by intro w; go_simp) (fun w hw => (stext_l (sums (sums xs ys) zs) (max (max r s) t) Nxyz Lrst w (Lib.hid (tab16_keep2 T14.out hw)) (Lib.hid (tab10_keep D14.out hw))).mono fun e w' ⟨he, hb⟩ => ⟨he, hw.call hb⟩) ?_
        simp only [Act.put, List.setIfInBounds_toArray, List.set_cons_zero, List.set_cons_succ]
        refine calm_val (by rfl) (v := .bool true) (by intro w hw; go_simp) ?_
        simp only [Act.put, List.setIfInBounds_toArray, List.set_cons_zero, List.set_cons_succ]
        refine calm_val (by rfl) (v := .bool true) (by intro w hw; go_simp) ?_
        simp only [Act.put, List.setIfInBounds_toArray, List.set_cons_zero, List.set_cons_succ]
        refine calm_move (by rfl) (.tmp 76) (by rfl) _ (by rfl) ?_
        simp only [Act.put, List.setIfInBounds_toArray, List.set_cons_zero, List.set_cons_succ]
        refine calm_load_row (by rfl) 48 (.tmp 7) (by rfl) (g1) (by rfl) 48 (cellsN xs r) _ _ (fun w hw => hw.blk F1.out) Tryd.underlying48 rfl (info_cellsN Nx.out.1) ?_
        simp only [Act.put, List.setIfInBounds_toArray, List.set_cons_zero, List.set_cons_succ]
        refine calm_load_row (by rfl) 48 (.tmp 18) (by rfl) (wr.heap.size) (by rfl) 48 (cellsN (List.replicate 8 0) 0) _ _ (fun w hw => hw.blk F5.out) Tryd.underlying48 rfl (info_cellsN (by rfl)) ?_
        simp only [Act.put, List.setIfInBounds_toArray, List.set_cons_zero, List.set_cons_succ]
        refine calm_call (by rfl) 34 #[.agg (cellsN xs r), .agg (cellsN (List.replicate 8 0) 0)] (by intro w; go_simp) (fun w hw => (and_l xs (List.replicate 8 0) r 0 Nx N0 Lr (Lib.hid (Nat.zero_le _)) w).mono fun e w' ⟨he, hb⟩ => ⟨by rw [he, hx0.out, Nat.max_zero], hw.call hb⟩) ?_
        simp only [Act.put, List.setIfInBounds_toArray, List.set_cons_zero, List.set_cons_succ]
        refine calm_call (by rfl) 37 #[.agg (cellsN xs r)] (by intro w; go_simp) (fun w hw => (stext_l (xs) (r) Nx Lr w (Lib.hid (tab16_keep2 T14.out hw)) (Lib.hid (tab10_keep D14.out hw))).mono fun e w' ⟨he, hb⟩ => ⟨he, hw.call hb⟩) ?_
        simp only [Act.put, List.setIfInBounds_toArray, List.set_cons_zero, List.set_cons_succ]
        refine calm_load_row (by rfl) 48 (.tmp 7) (by rfl) (g1) (by rfl) 48 (cellsN xs r) _ _ (fun w hw => hw.blk F1.out) Tryd.underlying48 rfl (info_cellsN Nx.out.1) ?_
        simp only [Act.put, List.setIfInBounds_toArray, List.set_cons_zero, List.set_cons_succ]
        refine calm_call (by rfl) 37 #[.agg (cellsN xs r)] (by intro w; go_simp) (fun w hw => (stext_l (xs) (r) Nx Lr w (Lib.hid (tab16_keep2 T14.out hw)) (Lib.hid (tab10_keep D14.out hw))).mono fun e w' ⟨he, hb⟩ => ⟨he, hw.call hb⟩) ?_
        simp only [Act.put, List.setIfInBounds_toArray, List.set_cons_zero, List.set_cons_succ]
        refine calm_val (by rfl) (v := .bool true) (by intro w hw; go_simp) ?_
        simp only [Act.put, List.setIfInBounds_toArray, List.set_cons_zero, List.set_cons_succ]
        refine calm_val (by rfl) (v := .bool true) (by intro w hw; go_simp) ?_
        simp only [Act.put, List.setIfInBounds_toArray, List.set_cons_zero, List.set_cons_succ]
        refine calm_assign (by rfl) (.tmp 85) (by rfl) _ (by rfl) ?_
        simp only [Act.put, List.setIfInBounds_toArray, List.set_cons_zero, List.set_cons_succ]
        refine calm_nil ?_
        intro w2 hw2
        have HB2 : Hid (Below w.heap.size w w2) := W14.out.trans (hw2.mono W14.out.size)
        go_wp2_with fail
        go_ret
        exact ⟨rfl, HB2.out⟩
end Go.Proofs.YtdgphhpeebieaaaDoor
