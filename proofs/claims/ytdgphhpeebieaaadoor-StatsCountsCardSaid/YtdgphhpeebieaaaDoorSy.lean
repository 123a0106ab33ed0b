/-
  WALK: StatsCounts: what is counted is as the document says; it is written, and read back.
-/
import Derived.Test.YtdgphhpeebieaaaDoorSx
import Derived.Test.YtdgphhpeebieaaaDoorEv
import Derived.Test.YtdgphhpeebieaaaDoorLx
import Derived.Shelf.Vars
namespace Go.Proofs.YtdgphhpeebieaaaDoor
open Go.RowKit FP Hx
set_option linter.unusedVariables false
set_option linter.unusedSimpArgs false

theorem going_l (xs : List Nat) (r : Nat) (hx : Hid (N8 xs)) (w : World) :
    Calls Tryd.prog 44 #[.agg (cellsN xs r)] w fun e w' => e = .returned (.float .f64 r) ∧ Below w.heap.size w w' := by
  obtain ⟨a0, a1, a2, a3, a4, a5, a6, a7, rfl⟩ := hx.out.eight
  exact going_any a0 a1 a2 a3 a4 a5 a6 a7 r w
theorem rate_l (xs : List Nat) (r : Nat) (hx : Hid (N8 xs)) (w : World) :
    Calls Tryd.prog 43 #[.agg (cellsN xs r)] w fun e w' => ∃ q, IsRatio (xs.getD 1 0) (xs.getD 0 0) q ∧ e = .returned (.float .f64 q) ∧ Below w.heap.size w w' := by
  obtain ⟨a0, a1, a2, a3, a4, a5, a6, a7, rfl⟩ := hx.out.eight
  have h := hx.out.2
  exact rate_any a0 a1 a2 a3 a4 a5 a6 a7 r (by have := h a0 (by simp); omega) (by have := h a1 (by simp); omega) w
/-- the first k counts, each with a blank -/
def pre (xs : List Nat) (k : Nat) : List UInt8 := ((xs.take k).map fun n => Lib.decDigits n ++ [32]).flatten
theorem pre_next {xs : List Nat} {k n : Nat} (h : xs[k]? = some n) : pre xs (k + 1) = pre xs k ++ (Lib.decDigits n ++ [32]) := by
  unfold pre
  rw [List.take_add_one, h]
  simp
theorem pre_all {xs : List Nat} (h : N8 xs) (r : Nat) (a : List UInt8) (ha : a = rateT (xs.getD 1 0) (xs.getD 0 0)) : pre xs 8 ++ ((a ++ [32]) ++ textL r) = statText xs r := by
  obtain ⟨n0, n1, n2, n3, n4, n5, n6, n7, rfl⟩ := h.eight
  subst ha
  unfold statText statWords pre
  simp [Lib.join_cons, Lib.joinTail]
theorem pre_len {xs : List Nat} (h : ∀ n ∈ xs, n < 18446744073709551616) : ∀ k, k ≤ xs.length → (pre xs k).length ≤ 101 * k
  | 0, _ => by simp [pre]
  | k + 1, hk => by
    obtain ⟨n, en⟩ : ∃ n, xs[k]? = some n := ⟨_, List.getElem?_eq_getElem (by omega)⟩
    rw [pre_next en]
    have h1 := pre_len h k (by omega)
    have h2 := dec_len (h n (List.mem_of_getElem? en))
    simp only [List.length_append, List.length_cons, List.length_nil]
    omega
theorem rate_len (b a : Nat) : (rateT b a).length ≤ 100 := by
  unfold rateT; split
  · decide
  · exact textL_len _
theorem stat_len {xs : List Nat} {r : Nat} (hx : N8 xs) : (statText xs r).length ≤ 1010 := by
  unfold statText
  refine Nat.le_trans (join_len ?_) ?_
  · intro x hm
    unfold statWords at hm
    rcases List.mem_append.1 hm with h | h
    · obtain ⟨n, hn, rfl⟩ := List.mem_map.1 h
      exact dec_len (hx.2 n hn)
    · simp only [List.mem_cons, List.mem_nil_iff, or_false] at h
      rcases h with rfl | rfl
      · exact rate_len _ _
      · exact textL_len _
  · simp [statWords, hx.1]
theorem wpList_load_row_g {P : Program} {w : World} {ops : Array Oper} {rest : List Oper} {o : Oper} {a : Act} {Q : Exit → Act → World → Prop} (hw : Region.wanted o (yielded ops a.tmps) = true) (ty : TypeId) (x : Operand) (ho : o.op = .load ty x)
    (g : Nat) (hx : a.eval x = .pointer (some ⟨g, 0, none⟩)) (t : TypeId) (cs : Array Value) (fr : Nat × Nat) (d : TypeDesc) (hg : w.heap[g]? = some (.cells cs t fr))
    (hu : P.underlying ty = some d) (hd : (match d with | .struct _ | .array _ _ => true | _ => false) = true) (hi : (P.info? ty).map (·.size) = some cs.size)
    (h : wpList P ops Q rest (a.put o.dst (.agg cs)) w) : wpList P ops Q (o :: rest) a w := by
  unfold wpList
  rw [if_pos hw]
  exact .inl (wp_load_row ty x ho g hx t cs fr d hg hu hd hi h)
attribute [local go_sem] run_store_flt

set_option maxRecDepth 100000 in
set_option maxHeartbeats 4000000 in
theorem statsCounts_walk (A : Option Addr) (len cap : Nat) (hlc : Hid (len ≤ cap ∧ cap ≤ maxLen)) (m : Int) (w : World)
    (hev : Hid (∀ i < len, ∃ a, A = some a ∧ ∃ k n h b, EvAt w (a.add (i * 4)) k n h b)) (hm : Hid (w.cell? ⟨4, 0, none⟩ = some (.int .i64 m))) (hT : Hid (Tab16 w)) (h10 : Hid (Tab10 w)) (hE : Hid (ErrV w)) :
    Calls Tryd.prog 11 #[.slice A len cap] w fun e w' => e = .returned (.bool true) ∧ Below w.heap.size w w' := by
  go_enter Tryd.func11, Tryd.ntmps11
  go_wp2_with fail
  refine (sawake_any _).mono ?_
  rintro e wa ⟨rfl, hwa⟩
  have ba : Hid (Below w.heap.size w wa) := hwa
  have ev1 := Lib.hid (evs_below hev.out hwa)
  clear hwa
  go_wp2_with fail
  refine (of_eight A len cap hlc.out.1 hlc.out.2 _ ev1).mono ?_
  rintro e wb ⟨a0, a1, a2, a3, a4, a5, a6, a7, r, ha, hr, rfl, hwb⟩
  have Hr := Lib.hid hr
  have Nx : Hid (N8 [a0, a1, a2, a3, a4, a5, a6, a7]) := ⟨rfl, ha⟩
  have bb : Hid (Below w.heap.size w wb) := ba.out.trans (hwb.mono ba.out.size)
  clear ha hr hwb ba ev1
  obtain ⟨xs, hxs⟩ : ∃ xs, xs = [a0, a1, a2, a3, a4, a5, a6, a7] := ⟨_, rfl⟩
  have HX := Lib.hid hxs
  rw [← hxs] at Nx
  clear hxs
  go_wp2_with fail
  obtain ⟨wc, hwc⟩ : ∃ wc, wc = (wb.alloc (.cells (cellsOf a0 a1 a2 a3 a4 a5 a6 a7 r) 48)).alloc (.cells (w8 a0 a1 a2 a3 a4 a5 a6 a7) 46) := ⟨_, rfl⟩
  have X1 : Hid (Blk wc wb.heap.size 48 (cellsN xs r)) := by
    show Blk _ _ _ _
    rw [hwc, HX.out]; exact (Blk.new wb 48 (cellsOf a0 a1 a2 a3 a4 a5 a6 a7 r)).alloc _
  have P1 : Hid (Blk wc (wb.heap.size + 1) 46 (wantN xs)) := by
    show Blk _ _ _ _
    have h := Blk.new (wb.alloc (.cells (cellsOf a0 a1 a2 a3 a4 a5 a6 a7 r) 48)) 46 (w8 a0 a1 a2 a3 a4 a5 a6 a7)
    rw [size_alloc] at h
    rw [hwc, HX.out]; exact h
  have bc : Hid (Below w.heap.size w wc) := by
    show Below _ _ _
    rw [hwc]; exact (bb.out.alloc bb.out.size _).alloc (by have := bb.out.size; simp; omega) _
  rw [← hwc]
  clear hwc
  go_loopw [6, 21] (fun s6 s21 wr => ∃ k : Nat, k ≤ 8 ∧ s21 = .int .i64 k ∧ s6 = .string ⟨(pre xs k).toArray⟩ ∧ Hid (Bl wc wr)) (fun _ s21 _ => 8 - (intOf s21).toNat)
  case atStart => exact ⟨0, Nat.zero_le _, rfl, rfl, Bl.self _⟩
  case round =>
    obtain ⟨k, hk, rfl, rfl, hB⟩ := hrel
    have B1 : Hid (Blk wr wb.heap.size 48 (cellsN xs r)) := hB.out.blk X1.out
    by_cases hlt : k < 8
    · obtain ⟨n, hn1, hn2⟩ := eight a0 a1 a2 a3 a4 a5 a6 a7 k hlt
      rw [← HX.out] at hn2
      have hn64 : Hid (n < 18446744073709551616) := Nx.out.2 n (List.mem_of_getElem? hn2)
      have Hn2 := Lib.hid hn2
      have hcn : Hid ((cellsN xs r)[k]? = some (.int .u64 (n : Int))) := cellsN_at hn2
      have hpl : (pre xs k).length ≤ 808 := by have := pre_len Nx.out.2 k (by rw [Nx.out.1]; exact hk); omega
      have hdl : (Lib.decDigits n).length ≤ 100 := dec_len hn64.out
      clear hn2
      go_wp2_with (refine wpList_load_row (by rfl) 48 (.tmp 3) (by rfl) wb.heap.size (by rfl) 48 (cellsN xs r) _ _ B1.out Tryd.underlying48 rfl (info_cellsN Nx.out.1) ?_)
      refine (count_any k hlt _ _ hcn.out _).mono ?_
      rintro e w2 ⟨rfl, hw2⟩
      have HB2 : Hid (Bl wc w2) := hB.out.call hw2
      clear hw2
      go_wp2_with fail
      refine (digits_any n hn64 _).mono ?_
      rintro e w3 ⟨rfl, hw3⟩
      have HB3 : Hid (Bl wc w3) := HB2.out.call hw3
      clear hw3 HB2
      go_wp2_with fail
      go_roundw
      case rel =>
        refine ⟨k + 1, by omega, by go_num, ?_, HB3.out⟩
        rw [pre_next Hn2.out, ← str_append, ← str_append]
      case measure => simp [intOf]; omega
    · obtain rfl : k = 8 := by omega
      have L1 : Hid (xs.length = 8) := Nx.out.1
      obtain ⟨b, eb⟩ : ∃ b, xs[1]? = some b := ⟨_, List.getElem?_eq_getElem (by have := L1.out; omega)⟩
      obtain ⟨a, ea⟩ : ∃ a, xs[0]? = some a := ⟨_, List.getElem?_eq_getElem (by have := L1.out; omega)⟩
      have g1 : Hid (xs.getD 1 0 = b) := by show _ = _; rw [List.getD_eq_getElem?_getD, eb]; rfl
      have g0 : Hid (xs.getD 0 0 = a) := by show _ = _; rw [List.getD_eq_getElem?_getD, ea]; rfl
      have hb64 : b < 18446744073709551616 := Nx.out.2 b (List.mem_of_getElem? eb)
      have ha64 : a < 18446744073709551616 := Nx.out.2 a (List.mem_of_getElem? ea)
      have c1 : wr.cell? ⟨wb.heap.size + 1, 1, none⟩ = some (.int .u64 b) := ((hB.out.blk P1.out).cell 1).trans (wantN_at eb)
      have c0 : wr.cell? ⟨wb.heap.size + 1, 0, none⟩ = some (.int .u64 a) := ((hB.out.blk P1.out).cell 0).trans (wantN_at ea)
      have hpl : (pre xs 8).length ≤ 808 := pre_len Nx.out.2 8 (by rw [Nx.out.1]; exact Nat.le_refl _)
      clear eb ea
      go_wp2_with fail
      refine (ratio_any b a (by omega) (by omega) _).mono ?_
      rintro e w2 ⟨q, hq, rfl, n, rfl⟩
      have HQ := Lib.hid hq
      have hqw : Hid (Wd q) := hq.1
      have HB2 : Hid (Bl wc (wr.drewN n)) := below_drewN hB.out n
      have hrw : Hid (Wd r) := le_one_wd Hr.out
      have lq : (textL q).length ≤ 100 := textL_len q
      have lr : (textL r).length ≤ 100 := textL_len r
      clear hq hb64 ha64
      go_wp2_with fail
      refine (refText_any q hqw _).mono ?_
      rintro e w3 ⟨rfl, hw3⟩
      have HB3 : Hid (Bl wc w3) := HB2.out.call hw3
      clear hw3
      go_wp2_with fail
      refine (refText_any r hrw _).mono ?_
      rintro e w4 ⟨rfl, hw4⟩
      have HB4 : Hid (Bl wc w4) := HB3.out.call hw4
      clear hw4
      go_wp2_with fail
      obtain ⟨tx, htx⟩ : ∃ tx : ByteArray, tx = ({ data := (pre xs 8).toArray } : ByteArray) ++ (({ data := (textL q).toArray } : ByteArray) ++ ({ data := #[32] } : ByteArray) ++ ({ data := (textL r).toArray } : ByteArray)) := ⟨_, rfl⟩
      have TX : Hid (tx.data.toList = statText xs r) := by
        show _ = _
        rw [← pre_all Nx.out r (textL q) (by rw [g1.out, g0.out]; exact rateT_eq HQ.out), htx]
        simp
      have HTX := Lib.hid htx
      have tsz : tx.size ≤ 100000 := by
        have h1 : tx.size = tx.data.toList.length := rfl
        have h2 := stat_len Nx.out (r := r)
        rw [h1, TX.out]; omega
      rw [← htx]
      clear htx hpl lq lr
      have b4 : Hid (Below w.heap.size w w4) := bc.out.trans (HB4.out.mono bc.out.size)
      have hm1 : Hid (w4.cell? ⟨4, 0, none⟩ = some (.int .i64 m)) := (b4.out.cell (World.block_lt_of_cell? w _ hm.out)).trans hm.out
      have T4 : Hid (Tab16 w4) := tab16_keep2 hT.out b4.out
      have D4 : Hid (Tab10 w4) := tab10_keep h10.out b4.out
      have E4 : Hid (ErrV w4) := errV_below hE.out b4.out
      refine (parse_any tx tsz m _ hm1 T4 D4 E4).mono ?_
      rintro e w5 ⟨ys, r', c, rfl, hb5, hn5, hr5, hc5, hfit⟩
      obtain rfl : c = 0 := hfit xs r Nx.out Hr.out TX.out
      have TY : Hid (statText ys r' = statText xs r) := by
        rcases hc5 with ⟨h, _, _⟩ | ⟨_, h⟩
        · exact absurd h (by decide)
        · rw [← h]; exact TX.out
      have Ny := Lib.hid hn5
      have Hr' := Lib.hid hr5
      have HB5 : Hid (Bl wc w5) := HB4.out.call hb5
      have hl : Hid (zeroS.size = (cellsN ys r').size) := by show _ = _; simp [cellsN, statCells, Ny.out.1]
      obtain ⟨w6, hw6⟩ : ∃ w6, w6 = (w5.alloc (.cells zeroS 48)).setRow w5.heap.size (cellsN ys r') := ⟨_, rfl⟩
      have W6 := Lib.hid hw6
      have B6 : Hid (Blk w6 w5.heap.size 48 (cellsN ys r')) := by
        show Blk _ _ _ _
        rw [hw6]; exact setRow_heap _ _ _ _ _ _ (Blk.new w5 48 zeroS)
      have HB6 : Hid (Bl wc w6) := by
        show Below _ _ _
        rw [hw6]; exact below_setRow (HB5.out.alloc HB5.out.size _) HB5.out.size _
      have X6 : Hid (Blk w6 wb.heap.size 48 (cellsN xs r)) := HB6.out.blk X1.out
      clear hn5 hr5 hc5 hfit hb5 hw6 T4 D4 E4 hm1
      have hns : statText xs r = tx.toList := by rw [toList_eq]; exact TX.out.symm
      have hys : statText ys r' = tx.toList := TY.out.trans hns
      have hnot : isNot r = false := isNot_le_one Hr.out
      go_wp2_with (first | (refine wpList_store_row (by rfl) 48 (.tmp 10) (.tmp 52) (by rfl) w5.heap.size (cellsN ys r') (by rfl) (by rfl) 48 zeroS (heap_alloc_new w5 _) (info_cellsN Ny.out.1) hl.out (cellsN_one _ _) ?_; rw [← W6.out]) | (refine wpList_load_row (by rfl) 48 (.tmp 3) (by rfl) wb.heap.size (by rfl) 48 (cellsN xs r) _ _ X6.out Tryd.underlying48 rfl (info_cellsN Nx.out.1) ?_))
      refine (count_out (-1) (by omega) _ _).mono ?_
      rintro e w7 ⟨rfl, hw7⟩
      have HB7 : Hid (Bl w6 w7) := hw7
      have X7 : Hid (Blk w7 wb.heap.size 48 (cellsN xs r)) := HB7.out.blk X6.out
      clear hw7
      go_wp2_with (refine wpList_load_row_g (by rfl) 48 (.tmp 3) (by rfl) wb.heap.size (by rfl) 48 (cellsN xs r) _ _ X7.out Tryd.underlying48 rfl (info_cellsN Nx.out.1) ?_)
      refine (count_out 8 (by omega) _ _).mono ?_
      rintro e w8_ ⟨rfl, hw8⟩
      have HB8 : Hid (Bl w6 w8_) := HB7.out.call hw8
      have X8 : Hid (Blk w8_ wb.heap.size 48 (cellsN xs r)) := HB8.out.blk X6.out
      clear hw8
      go_wp2_with (refine wpList_load_row_g (by rfl) 48 (.tmp 3) (by rfl) wb.heap.size (by rfl) 48 (cellsN xs r) _ _ X8.out Tryd.underlying48 rfl (info_cellsN Nx.out.1) ?_)
      refine (rate_l xs r Nx _).mono ?_
      rintro e w9 ⟨q', hq', rfl, hw9⟩
      have HB9 : Hid (Bl w6 w9) := HB8.out.call hw9
      have X9 : Hid (Blk w9 wb.heap.size 48 (cellsN xs r)) := HB9.out.blk X6.out
      have hqw' : Hid (Wd q') := hq'.1
      have ho : Hid (orderI q' q = 0) := by
        rw [g1.out, g0.out] at hq'
        exact ratio_same hq' HQ.out
      clear hw9 hq'
      go_wp2_with fail
      refine (order_any q' q hqw' hqw _).mono ?_
      rintro e w10 ⟨rfl, rfl⟩
      rw [ho.out]
      go_wp2_with (refine wpList_load_row_g (by rfl) 48 (.tmp 3) (by rfl) wb.heap.size (by rfl) 48 (cellsN xs r) _ _ X9.out Tryd.underlying48 rfl (info_cellsN Nx.out.1) ?_)
      refine (going_l xs r Nx _).mono ?_
      rintro e w11 ⟨rfl, hw11⟩
      have HB11 : Hid (Bl w6 w11) := HB9.out.call hw11
      have X11 : Hid (Blk w11 wb.heap.size 48 (cellsN xs r)) := HB11.out.blk X6.out
      clear hw11
      go_wp2_with fail
      refine (order_any r r hrw hrw _).mono ?_
      rintro e w12 ⟨rfl, rfl⟩
      rw [orderI_self r]
      have b11 : Hid (Below w.heap.size w w11) := (bc.out.trans (HB6.out.mono bc.out.size)).trans (HB11.out.mono (Nat.le_trans bc.out.size HB6.out.size))
      have T11 : Hid (Tab16 w11) := tab16_keep2 hT.out b11.out
      have D11 : Hid (Tab10 w11) := tab10_keep h10.out b11.out
      go_wp2_with (refine wpList_load_row_g (by rfl) 48 (.tmp 3) (by rfl) wb.heap.size (by rfl) 48 (cellsN xs r) _ _ X11.out Tryd.underlying48 rfl (info_cellsN Nx.out.1) ?_)
      refine (stext_w xs r Nx hrw _ T11 D11).mono ?_
      rintro e w13 ⟨rfl, hw13⟩
      have HB13 : Hid (Bl w6 w13) := HB11.out.call hw13
      have Y13 : Hid (Blk w13 w5.heap.size 48 (cellsN ys r')) := HB13.out.blk B6.out
      have b13 : Hid (Below w.heap.size w w13) := b11.out.trans (hw13.mono b11.out.size)
      have T13 : Hid (Tab16 w13) := tab16_keep2 hT.out b13.out
      have D13 : Hid (Tab10 w13) := tab10_keep h10.out b13.out
      clear hw13
      go_wp2_with (refine wpList_load_row_g (by rfl) 48 (.tmp 10) (by rfl) w5.heap.size (by rfl) 48 (cellsN ys r') _ _ Y13.out Tryd.underlying48 rfl (info_cellsN Ny.out.1) ?_)
      refine (stext_w ys r' Ny Hr' _ T13 D13).mono ?_
      rintro e w14 ⟨rfl, hw14⟩
      have b14 : Hid (Below w.heap.size w w14) := b13.out.trans (hw14.mono b13.out.size)
      clear hw14
      go_wp2_with fail
      refine (refNot_any r hrw _).mono ?_
      rintro e w15 ⟨rfl, rfl⟩
      rw [hnot]
      go_wp2_with fail
      go_ret
      exact ⟨by simp, b14.out⟩

theorem maxlen {w : World} (h : w.ShapedOpen Tryd.prog) : ∃ m, w.cell? ⟨4, 0, none⟩ = some (.int .i64 m) :=
  cell_of_shapedOpen_int (t := 3) (zero := #[.int .i64 0]) h (of_decide_eq_true (by kernel_rfl)) (by kernel_rfl) rfl (by kernel_rfl) (by kernel_rfl) Tryd.underlying3
theorem counts_walk {v0 : Value} {w : World} (h0 : Evs w v0) (hT : Tab16 w) (hE : ErrV w) (h10 : Lib.TabIs Tryd.prog w "internal/strconv.uint64pow10" .u64 tab10) (hM : ∃ m, w.cell? ⟨4, 0, none⟩ = some (.int .i64 m)) :
    Calls Tryd.prog 11 #[v0] w fun e w' => e = .returned (.bool true) ∧ Below w.heap.size w w' := by
  obtain ⟨A, len, cap, rfl, hl, hm, he⟩ := h0
  obtain ⟨m, hM⟩ := hM
  exact statsCounts_walk A len cap ⟨hl, hm⟩ m w he hM hT (by show Lib.TabIs _ _ _ _ _; rw [← pow10_eq]; exact h10) hE
theorem stexts_walk (s0 : ByteArray) (hs0 : s0.size ≤ maxLen) (w : World) (hT : Tab16 w) (hE : ErrV w) (h10 : Lib.TabIs Tryd.prog w "internal/strconv.uint64pow10" .u64 tab10) (hM : ∃ m, w.cell? ⟨4, 0, none⟩ = some (.int .i64 m)) :
    Calls Tryd.prog 12 #[.string s0] w fun e w' => e = .returned (.bool true) ∧ Below w.heap.size w w' := by
  obtain ⟨m, hM⟩ := hM
  exact statsTexts_walk s0 hs0 m w hM hT (by show Lib.TabIs _ _ _ _ _; rw [← pow10_eq]; exact h10) hE
end Go.Proofs.YtdgphhpeebieaaaDoor
