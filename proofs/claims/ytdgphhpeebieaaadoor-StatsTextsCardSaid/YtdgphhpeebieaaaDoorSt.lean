/-
  WALK: stats.Text.
-/
import Derived.Test.YtdgphhpeebieaaaDoorSa
import Derived.Test.YtdgphhpeebieaaaDoorFd
import Derived.Test.YtdgphhpeebieaaaDoorShJ
import Derived.Test.YtdgphhpeebieaaaDoorTx
import Derived.Deep.AppendLies
namespace Go.Proofs.YtdgphhpeebieaaaDoor
open Go.RowKit FP Hx
set_option linter.unusedVariables false

/-- the rate, as a text -/
def rateT (b a : Nat) : List UInt8 := if b = 0 ∧ a = 0 then [110, 111, 110, 101] else textL (ratioW b a)
theorem rateT_eq {b a q : Nat} (h : IsRatio b a q) : textL q = rateT b a := by
  unfold rateT
  by_cases c : b = 0 ∧ a = 0
  · rw [if_pos c]; unfold textL; rw [h.2.1 c.1 c.2]; rfl
  · rw [if_neg c, h.2.2 (fun h1 h2 => c ⟨h1, h2⟩)]
def wordB (n : Nat) : ByteArray := ⟨(Lib.decDigits n).toArray⟩
def wordV (n : Nat) : Value := .string (wordB n)
/-- a Stats as a text: its ten words -/
def statWords (ns : List Nat) (r : Nat) : List (List UInt8) := ns.map Lib.decDigits ++ [rateT (ns.getD 1 0) (ns.getD 0 0), textL r]
def statText (ns : List Nat) (r : Nat) : List UInt8 := Lib.join (statWords ns r) [32]
theorem eight (n0 n1 n2 n3 n4 n5 n6 n7 k : Nat) (h : k < 8) : ∃ n : Nat, (∀ w, (Instr.index 46 (.agg #[.int .u64 (n0 : Int), .int .u64 (n1 : Int), .int .u64 (n2 : Int), .int .u64 (n3 : Int), .int .u64 (n4 : Int), .int .u64 (n5 : Int), .int .u64 (n6 : Int), .int .u64 (n7 : Int)]) (.int .i64 (k : Int))).run Tryd.prog w = .ok (.int .u64 (n : Int)) w) ∧ [n0, n1, n2, n3, n4, n5, n6, n7][k]? = some n := by
  rcases k with _ | _ | _ | _ | _ | _ | _ | _ | k
  all_goals first | exact ⟨_, fun w => by kernel_rfl, rfl⟩ | omega
theorem tab10_keep {w w1 : World} (h : Tab10 w) (hb : Below w.heap.size w w1) : Tab10 w1 := Lib.tabBelow_of_tabIs h _ hb
theorem own_below {B : Nat} {e : TypeId} {k : Nat} {v : Value} {n : Nat} {xs : List Value} {w w' : World} (h : w.ownsRow B e k v n xs) (hb : Below w.heap.size w w') : w'.ownsRow B e k v n xs :=
  h.kept (gb_below hb none) (by cases v.ownBlock <;> simp)
theorem tab16_keep2 {w w1 : World} (h : Tab16 w) (hb : Below w.heap.size w w1) : Tab16 w1 := (hb.cell (World.block_lt_of_cell? w _ h)).trans h
theorem info_str : (Tryd.prog.info? 9).map (fun i => (i.zero, i.size, i.bytes)) = some (some (.string ⟨#[]⟩), 1, 16) := by kernel_rfl

theorem textL_len (x : Nat) : (textL x).length ≤ 100 := by
  unfold textL
  have h := hexL_length x
  split
  · decide
  · split
    · decide
    · split
      · decide
      · rw [List.length_append, List.length_replicate]; omega
theorem dec_len {n : Nat} (h : n < 18446744073709551616) : (Lib.decDigits n).length ≤ 100 := by
  rw [Lib.decDigits_length]
  by_cases h0 : n = 0
  · subst h0; unfold Lib.nDigits; simp
  · have := Lib.numDigits_eq n (by omega) h
    split at this <;> omega
theorem joinTail_len {r : List (List UInt8)} (h : ∀ x ∈ r, x.length ≤ 100) : (Lib.joinTail [32] r).length ≤ 101 * r.length := by
  induction r with
  | nil => simp [Lib.joinTail]
  | cons x r ih =>
    have h1 := ih (fun y hy => h y (List.mem_cons_of_mem _ hy))
    have h2 := h x (by simp)
    unfold Lib.joinTail at *
    simp only [List.map_cons, List.flatten_cons, List.length_append, List.length_cons, List.length_nil] at *
    omega
theorem join_len {xs : List (List UInt8)} (h : ∀ x ∈ xs, x.length ≤ 100) : (Lib.join xs [32]).length ≤ 101 * xs.length := by
  cases xs with
  | nil => simp [Lib.join_nil]
  | cons x r =>
    rw [Lib.join_cons]
    have h1 := joinTail_len (fun y hy => h y (List.mem_cons_of_mem _ hy))
    have h2 := h x (by simp)
    simp only [List.length_append, List.length_cons]
    omega
theorem join10 (ns : List Nat) (hl : ns.length = 8) (hn : ∀ n ∈ ns, n < 18446744073709551616) (a b : List UInt8) (ha : a.length ≤ 100) (hb : b.length ≤ 100) (gg cap base : Nat) (w : World)
    (hown : w.ownsRow base 9 1 (.slice (some ⟨gg, 0, none⟩) (8 + 2) cap) (8 + 2) (ns.map wordV ++ [.string ⟨a.toArray⟩, .string ⟨b.toArray⟩])) :
    Calls Tryd.prog 58 #[.slice (some ⟨gg, 0, none⟩) (8 + 2) cap, .string ⟨#[32]⟩] w fun e w' => e = .returned (.string ⟨(Lib.join ((ns.map wordB ++ [(⟨a.toArray⟩ : ByteArray), ⟨b.toArray⟩]).map (·.data.toList)) [32]).toArray⟩) ∧ Below w.heap.size w w' := by
  have hx : (ns.map wordB ++ [(⟨a.toArray⟩ : ByteArray), ⟨b.toArray⟩]).length = 8 + 2 := by simp [hl]
  have hm : ns.map wordV ++ [.string ⟨a.toArray⟩, .string ⟨b.toArray⟩] = (ns.map wordB ++ [(⟨a.toArray⟩ : ByteArray), ⟨b.toArray⟩]).map Value.string := by
    simp [wordV]
  obtain ⟨g', cap', e, _, hlt⟩ := hown.form (by omega)
  cases e
  have hcap : 8 + 2 ≤ cap := by
    rcases hown.2 with ⟨h, _⟩ | ⟨_, _, _, h, _, _, h2, _⟩
    · cases h
    · cases h; exact h2
  have h := Tryd.strings_Join gg 0 cap (ns.map wordB ++ [(⟨a.toArray⟩ : ByteArray), ⟨b.toArray⟩]) ⟨#[32]⟩ w (fun j x hj => by
      have hj' : j < 8 + 2 := by
        rcases Nat.lt_or_ge j (8 + 2) with h | h
        · exact h
        · rw [List.getElem?_eq_none (by omega)] at hj; cases hj
      rw [Nat.zero_add, hown.cellAt j (by omega), hm, List.getElem?_map, hj]; rfl) hlt (by rw [hx]; omega) (by rw [hx]; exact hcap) (by
      refine Nat.le_trans (join_len ?_) ?_
      · intro x hxm
        simp only [List.map_append, List.map_map, List.mem_append, List.mem_map, List.map_cons, List.map_nil, List.mem_cons, List.mem_nil_iff, or_false, Function.comp] at hxm
        rcases hxm with ⟨n, hnm, rfl⟩ | rfl | rfl
        · exact dec_len (hn n hnm)
        · exact ha
        · exact hb
      · rw [List.length_map, hx]; omega)
  rw [hx] at h
  exact h

/-- what is known while the text is put together: w0 the world at the call -/
def St (w0 : World) (n0 n1 n2 n3 n4 n5 n6 n7 r : Nat) (w : World) : Prop :=
  Tab16 w0 ∧ Below w0.heap.size w0 w ∧ Blk w w0.heap.size 48 (cellsOf n0 n1 n2 n3 n4 n5 n6 n7 r)
section
variable {w0 w w' : World} {n0 n1 n2 n3 n4 n5 n6 n7 r : Nat}
theorem St.nine (h : St w0 n0 n1 n2 n3 n4 n5 n6 n7 r w) : w.cell? ⟨w0.heap.size, 0, none⟩ = some (.int .u64 n0) ∧ w.cell? ⟨w0.heap.size, 1, none⟩ = some (.int .u64 n1) ∧ w.cell? ⟨w0.heap.size, 2, none⟩ = some (.int .u64 n2) ∧ w.cell? ⟨w0.heap.size, 3, none⟩ = some (.int .u64 n3) ∧ w.cell? ⟨w0.heap.size, 4, none⟩ = some (.int .u64 n4) ∧ w.cell? ⟨w0.heap.size, 5, none⟩ = some (.int .u64 n5) ∧ w.cell? ⟨w0.heap.size, 6, none⟩ = some (.int .u64 n6) ∧ w.cell? ⟨w0.heap.size, 7, none⟩ = some (.int .u64 n7) ∧ w.cell? ⟨w0.heap.size, 8, none⟩ = some (.float .f64 r) ∧ Hid (St w0 n0 n1 n2 n3 n4 n5 n6 n7 r w) := by
  obtain ⟨c0, c1, c2, c3, c4, c5, c6, c7, c8⟩ := blk9 h.2.2
  exact ⟨c0, c1, c2, c3, c4, c5, c6, c7, c8, h⟩
theorem St.below (hb : Below w.heap.size w w') (h : Hid (St w0 n0 n1 n2 n3 n4 n5 n6 n7 r w)) : St w0 n0 n1 n2 n3 n4 n5 n6 n7 r w' :=
  ⟨h.out.1, h.out.2.1.trans (hb.mono h.out.2.1.size), h.out.2.2.below hb h.out.2.2.lt⟩
theorem St.grown {row : Option Nat} (hg : w.grownBy w' row) (hr : ∀ k, row = some k → w0.heap.size + 1 ≤ k) (h : Hid (St w0 n0 n1 n2 n3 n4 n5 n6 n7 r w)) : St w0 n0 n1 n2 n3 n4 n5 n6 n7 r w' :=
  ⟨h.out.1, h.out.2.1.grown hg h.out.2.1.size (fun k hk => by have := hr k hk; omega), h.out.2.2.grown hg (fun e => by have := hr _ e.symm; omega)⟩
theorem St.tab (h : Hid (St w0 n0 n1 n2 n3 n4 n5 n6 n7 r w)) : Hid (Tab16 w) := tab16_keep2 h.out.1 h.out.2.1
theorem St.sz (h : Hid (St w0 n0 n1 n2 n3 n4 n5 n6 n7 r w)) : w0.heap.size + 1 ≤ w.heap.size := h.out.2.2.lt
theorem below_drew (w : World) : Below w.heap.size w w.drew := ⟨rfl, rfl, rfl, Nat.le_refl _, fun _ _ => rfl⟩
theorem below_alloc1 (w : World) (o : Obj) : Below w.heap.size w (w.alloc o) := (Below.refl _ _).alloc (Nat.le_refl _) o
theorem ownB {B : Nat} {e : TypeId} {k : Nat} {v : Value} {n : Nat} {xs : List Value} (hb : Below w.heap.size w w') (h : w.ownsRow B e k v n xs) : w'.ownsRow B e k v n xs := own_below h hb
end

set_option maxRecDepth 100000 in
theorem stext_any (n0 n1 n2 n3 n4 n5 n6 n7 : Nat) (r : Nat) (hr : Hid (Wd r)) (hns : Hid (∀ n ∈ [n0, n1, n2, n3, n4, n5, n6, n7], n < 18446744073709551616)) (w : World) (hT : Hid (Tab16 w)) (h10 : Hid (Tab10 w)) :
    Calls Tryd.prog 37 #[.agg (cellsOf n0 n1 n2 n3 n4 n5 n6 n7 r)] w fun e w' => e = .returned (.string ⟨(statText [n0, n1, n2, n3, n4, n5, n6, n7] r).toArray⟩) ∧ Below w.heap.size w w' := by
  obtain ⟨i0, hi0, hz0, hz1, hz2⟩ := info_parts info_str
  obtain ⟨ns, hnsl⟩ : ∃ ns, ns = [n0, n1, n2, n3, n4, n5, n6, n7] := ⟨_, rfl⟩
  have hlen : ns.length = 8 := by rw [hnsl]; rfl
  have HN := Lib.hid hnsl
  rw [← hnsl] at hns ⊢
  clear hnsl
  go_enter Tryd.func37, Tryd.ntmps37
  go_wp2_with fail
  go_loopw [3, 8] (fun s3 s8 wr => ∃ k : Nat, k ≤ 8 ∧ s8 = .int .i64 k ∧ Hid (wr.ownsRow (w.heap.size + 1) 9 1 s3 k ((ns.take k).map wordV)) ∧ Hid (Blk wr w.heap.size 48 (cellsOf n0 n1 n2 n3 n4 n5 n6 n7 r)) ∧ Hid (Below w.heap.size w wr)) (fun _ s8 _ => 8 - (intOf s8).toNat)
  case atStart => exact ⟨0, Nat.zero_le _, rfl, ⟨rfl, .inl ⟨rfl, rfl⟩⟩, Blk.new _ _ _, (Below.refl _ _).alloc (Nat.le_refl _) _⟩
  case round =>
    obtain ⟨k, hk, rfl, hown, hblk, hbel⟩ := hrel
    by_cases hlt : k < 8
    · obtain ⟨n, hn1, hn2⟩ := eight n0 n1 n2 n3 n4 n5 n6 n7 k hlt
      rw [← HN.out] at hn2
      have hn64 : n < 18446744073709551616 := hns.out n (List.mem_of_getElem? hn2)
      have Hn2 := Lib.hid hn2
      have Hn64 := Lib.hid hn64
      clear hn2 hn64
      have hT10 := tab10_keep h10.out hbel.out
      go_wp2_with fail
      clear hn1
      refine (fu10 n Hn64.out _ hT10).mono ?_
      rintro e w2 ⟨rfl, hw2⟩
      have own2 := Lib.hid (own_below hown.out hw2)
      have blk2 := Lib.hid (hblk.out.below hw2 hblk.out.lt)
      have bel2 := Lib.hid (hbel.out.trans (hw2.mono hbel.out.size))
      have hz2' : w.heap.size ≤ w2.heap.size := bel2.out.size
      have hzb : w.heap.size < w2.heap.size := blk2.out.lt
      clear hT10 hw2
      go_wp2_with (at_builtin; refine wpList_append_lies _ rfl (.tmp 11) (.tmp 14) _ rfl (w.heap.size + 1) 9 i0 _ 1 16 Tryd.underlying76 hi0 hz0 hz1 hz2 rfl (by omega) u3 k ((ns.take k).map wordV) (by rfl) (own2.out.alloc _) ⟨w2.heap.size, 0, none⟩ 1 1 [wordV n] (by rfl) (by rfl) (World.news_of_block (cs := #[wordV n]) (t := 9) (fr := (0, 0)) (heap_alloc_new w2 _)) (by simp [wordV, Value.oneCell']) (by omega) (by unfold maxLen; omega) (by omega) (by simp; omega) (w2.heap.size + 1) (by simp) ?_; intro gg cap w3 hown3 hgrow3 hat3 hlt3)
      go_roundw
      case rel =>
        have hne : ∀ j, u3.ownBlock = some j → w.heap.size + 1 ≤ j := fun j hj => (own2.out.lt j hj).1
        refine ⟨k + 1, by omega, by go_num, ?_, (blk2.out.alloc _).grown hgrow3 (fun h => ?_), (bel2.out.alloc bel2.out.size _).grown hgrow3 (by simp; omega) (fun j hj => ?_)⟩
        · have e1 : (ns.take (k + 1)).map wordV = (ns.take k).map wordV ++ [wordV n] := by rw [List.take_add_one, Hn2.out]; simp
          show World.ownsRow _ _ _ _ _ _ _
          rw [e1]
          exact hown3
        · have := hne _ h.symm; omega
        · have := hne _ hj; omega
      case measure => simp [intOf]; omega
    · obtain rfl : k = 8 := by omega
      rw [List.take_of_length_le (by omega)] at hown
      have hS : Hid (St w n0 n1 n2 n3 n4 n5 n6 n7 r wr) := ⟨hT.out, hbel.out, hblk.out⟩
      have hrow : ∀ k, u3.ownBlock = some k → w.heap.size + 1 ≤ k := fun j hj => (hown.out.lt j hj).1
      have r0 : n0 ≤ 18446744073709551615 := by have := hns.out n0 (by rw [HN.out]; simp); omega
      have r1 : n1 ≤ 18446744073709551615 := by have := hns.out n1 (by rw [HN.out]; simp); omega
      go_wp2_with fail
      go_region_held3 (fun w' => w'.cell? ⟨w.heap.size, 0, none⟩ = some (.int .u64 n0) ∧ w'.cell? ⟨w.heap.size, 1, none⟩ = some (.int .u64 n1) ∧ w'.cell? ⟨w.heap.size, 2, none⟩ = some (.int .u64 n2) ∧ w'.cell? ⟨w.heap.size, 3, none⟩ = some (.int .u64 n3) ∧ w'.cell? ⟨w.heap.size, 4, none⟩ = some (.int .u64 n4) ∧ w'.cell? ⟨w.heap.size, 5, none⟩ = some (.int .u64 n5) ∧ w'.cell? ⟨w.heap.size, 6, none⟩ = some (.int .u64 n6) ∧ w'.cell? ⟨w.heap.size, 7, none⟩ = some (.int .u64 n7) ∧ w'.cell? ⟨w.heap.size, 8, none⟩ = some (.float .f64 r) ∧ Hid (St w n0 n1 n2 n3 n4 n5 n6 n7 r w'))
        (first | exact (St.below (below_drew _) hS).nine | (go_split_ands; exact (St.below (below_alloc1 _ _) (by assumption)).nine) | (go_split_ands; exact (St.below (by assumption) (by assumption)).nine) | (go_split_ands; exact (St.grown hgrow3 hrow (by assumption)).nine))
        (first
          | ((go_at_call 43; refine (rate_any n0 n1 n2 n3 n4 n5 n6 n7 r r0 r1 _).mono ?_; rintro e w1 ⟨q, hq, rfl, hb1⟩))
          | ((go_at_call 24; go_split_ands; refine (text_any _ (by first | exact hr | exact hq.1) _ (St.tab (by assumption))).mono ?_; rintro e w2 ⟨rfl, hb2⟩))
          | ((go_split_ands; have own3 : w2.ownsRow (w.heap.size + 1) 9 1 u3 8 (ns.map wordV) := (ownB (by assumption) (ownB (by assumption) (ownB (by assumption) (ownB (below_drew _) hown.out)))); have hsz3 := St.sz (w := w2.alloc (.cells #[.string ⟨(textL q).toArray⟩, .string ⟨(textL r).toArray⟩] 9)) (by assumption); (have h1' : ∀ u ∈ ([.string ⟨(textL q).toArray⟩, .string ⟨(textL r).toArray⟩] : List Value), u.oneCell' = true := by simp [Value.oneCell']); (have hm' : 8 + 2 ≤ maxLen := by unfold maxLen; omega); refine step_append_lies (o := ⟨some 25, _, _, _, _, _⟩) _ (by rfl) (.tmp 17) (.tmp 24) _ (by rfl) (w.heap.size + 1) 9 i0 _ 1 16 Tryd.underlying76 hi0 hz0 hz1 hz2 rfl (by decide) u3 8 (ns.map wordV) (by rfl) (own3.alloc _) ⟨w2.heap.size, 0, none⟩ 2 2 [.string ⟨(textL q).toArray⟩, .string ⟨(textL r).toArray⟩] (by rfl) (by rfl) (World.news_of_block (cs := #[.string ⟨(textL q).toArray⟩, .string ⟨(textL r).toArray⟩]) (t := 9) (fr := (0, 0)) (heap_alloc_new w2 _)) h1' (by decide) hm' (by decide) hsz3 _ rfl ?_; intro gg cap w4 hown4 hgrow3 hat hlt4))
          | ((go_at_call 58; go_split_ands; refine (join10 ns hlen hns.out (textL q) (textL r) (textL_len _) (textL_len _) gg cap (w.heap.size + 1) _ hown4).mono ?_; rintro e w5 ⟨rfl, hb5⟩))
          | fail)
      have fin : Hid (statText ns r = Lib.join (List.map ((fun x : ByteArray => x.data.toList) ∘ wordB) ns ++ [textL q, textL r]) [32]) := by
        show _ = _
        have e0 : ns.getD 0 0 = n0 := by rw [HN.out]; rfl
        have e1 : ns.getD 1 0 = n1 := by rw [HN.out]; rfl
        unfold statText statWords
        rw [e0, e1, rateT_eq hq]
        rfl
      go_wp2_with fail
      go_ret
      exact ⟨by rw [fin.out]; rfl, (by rename_i hH; exact hH.2.2.2.2.2.2.2.2.2.out.2.1)⟩
end Go.Proofs.YtdgphhpeebieaaaDoor
