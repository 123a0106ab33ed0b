/-
  WALK: Of: counts of events.
-/
import Derived.Test.YtdgphhpeebieaaaDoorSn
namespace Go.Proofs.YtdgphhpeebieaaaDoor
open Go.RowKit FP Hx
set_option linter.unusedVariables false
set_option linter.unusedSimpArgs false

/-- an event lies at a -/
def EvAt (w : World) (a : Addr) (k : Int) (n : Nat) (h : Bool) (b : Nat) : Prop :=
  a.block < w.heap.size ∧ w.cell? a = some (.int .i64 k) ∧ w.cell? ⟨a.block, a.off + 1, none⟩ = some (.int .u64 n) ∧ w.cell? ⟨a.block, a.off + 2, none⟩ = some (.bool h) ∧ w.cell? ⟨a.block, a.off + 3, none⟩ = some (.int .u64 b) ∧ n < 18446744073709551616 ∧ b < 18446744073709551616
/-- a slice of events -/
def Evs (w : World) (v : Value) : Prop := ∃ (A : Option Addr) (len cap : Nat), v = .slice A len cap ∧ len ≤ cap ∧ cap ≤ maxLen ∧ ∀ i < len, ∃ a, A = some a ∧ ∃ k n h b, EvAt w (a.add (i * 4)) k n h b

theorem add_out (p : Value) (k : Int) (hk : k < 0 ∨ 8 ≤ k) (n : Int) (w : World) :
    Calls Tryd.prog 56 #[p, .int .i64 k, .int .u64 n] w fun e w' => e = .returned (.tuple #[]) ∧ w' = w := by
  rcases hk with hk | hk
  · have h1 : ¬ 0 ≤ k := by omega
    go_enter Tryd.func56, Tryd.ntmps56
    go_wp2_with fail
    go_end0
    exact ⟨rfl, rfl⟩
  · have h1 : ¬ k < 8 := by omega
    have h2 : 0 ≤ k := by omega
    go_enter Tryd.func56, Tryd.ntmps56
    go_wp2_with fail
    go_end0
    exact ⟨rfl, rfl⟩

def wantCells (l : List Int) : Array Value := (l.map (Value.int .u64)).toArray

structure Step (P : Program) (ops : Array Oper) (o : Oper) (a : Act) (w : World) (K : Act → World → Prop) (Q : Exit → Act → World → Prop) (E : Prop) : Prop where
  out : if Region.wanted o (yielded ops a.tmps) = true then Oper.wp P o a w K Q else E
theorem step_store_row {P : Program} {w : World} {ops : Array Oper} {o : Oper} {a : Act} {K : Act → World → Prop} {Q : Exit → Act → World → Prop} {E : Prop} (hgd : o.guard = none) (ty : TypeId) (x y : Operand) (ho : o.op = .store ty x y)
    (g : Nat) (cells : Array Value) (hx : a.eval x = .pointer (some ⟨g, 0, none⟩)) (hy : a.eval y = .agg cells) (t : TypeId) (old : Array Value) (hg : w.heap[g]? = some (.cells old t (0, 0)))
    (hi : (P.info? ty).map (·.size) = some cells.size) (hold : old.size = cells.size) (h1 : cells.all (·.oneCell') = true) (h : K (a.put o.dst undef) (w.setRow g cells)) :
    Step P ops o a w K Q E := by
  refine ⟨?_⟩
  have hw : Region.wanted o (yielded ops a.tmps) = true := by simp [Region.wanted, hgd]
  rw [if_pos hw]
  exact wp_store_row ty x y ho g cells hx hy t old hg hi hold h1 h
theorem step_load_row {P : Program} {w : World} {ops : Array Oper} {o : Oper} {a : Act} {K : Act → World → Prop} {Q : Exit → Act → World → Prop} {E : Prop} (hgd : o.guard = none) (ty : TypeId) (x : Operand) (ho : o.op = .load ty x)
    (g : Nat) (hx : a.eval x = .pointer (some ⟨g, 0, none⟩)) (t : TypeId) (cs : Array Value) (fr : Nat × Nat) (d : TypeDesc) (hg : w.heap[g]? = some (.cells cs t fr))
    (hu : P.underlying ty = some d) (hd : (match d with | .struct _ | .array _ _ => true | _ => false) = true) (hi : (P.info? ty).map (·.size) = some cs.size)
    (h : K (a.put o.dst (.agg cs)) w) : Step P ops o a w K Q E := by
  refine ⟨?_⟩
  have hw : Region.wanted o (yielded ops a.tmps) = true := by simp [Region.wanted, hgd]
  rw [if_pos hw]
  exact wp_load_row ty x ho g hx t cs fr d hg hu hd hi h
theorem any_one {P : Program} {md : Region.Mode} {ops : Array Oper} {Q : Exit → Act → World → Prop} {i : Nat} {o : Oper} {fuel : Nat} {listed : Array Bool} {a : Act} {w : World} (ho : ops[i]? = some o) (hr : Region.ready md ops listed = [i])
    (h : ∀ K' : Act → World → Prop, (∀ a w, wpAny P md ops Q fuel (listed.setIfInBounds i true) a w → K' a w) → Step P ops o a w K' Q (K' (a.put o.dst undef) w)) :
    wpAny P md ops Q (fuel + 1) listed a w := wpAny_ready hr (by simp) (AllReady.cons ho (fun K hK => (h K hK).out) AllReady.nil)
theorem any_two {P : Program} {md : Region.Mode} {ops : Array Oper} {Q : Exit → Act → World → Prop} {i j : Nat} {o o' : Oper} {fuel : Nat} {listed : Array Bool} {a : Act} {w : World} (ho : ops[i]? = some o) (ho' : ops[j]? = some o') (hr : Region.ready md ops listed = [i, j])
    (h : ∀ K' : Act → World → Prop, (∀ a w, wpAny P md ops Q fuel (listed.setIfInBounds i true) a w → K' a w) → Step P ops o a w K' Q (K' (a.put o.dst undef) w))
    (h' : ∀ K' : Act → World → Prop, (∀ a w, wpAny P md ops Q fuel (listed.setIfInBounds j true) a w → K' a w) → Step P ops o' a w K' Q (K' (a.put o'.dst undef) w)) :
    wpAny P md ops Q (fuel + 1) listed a w := wpAny_ready hr (by simp) (AllReady.cons ho (fun K hK => (h K hK).out) (AllReady.cons ho' (fun K hK => (h' K hK).out) AllReady.nil))
theorem results_of {P : Program} {fn : Func} {t1 t2 : TypeId} (h : fn.results = #[.cell 2 t1, .cell 3 t2, .tmp 4]) (tmps : Array Value) (w : World) (g g' : Nat) (t t' : TypeId) (cs cs' : Array Value) (fr fr' : Nat × Nat) (d d' : TypeDesc) (v : Value)
    (hp : tmps.getD 2 undef = .pointer (some ⟨g, 0, none⟩)) (hg : w.heap[g]? = some (.cells cs t fr)) (hp' : tmps.getD 3 undef = .pointer (some ⟨g', 0, none⟩)) (hg' : w.heap[g']? = some (.cells cs' t' fr'))
    (hu : P.underlying t1 = some d) (hd : (match d with | .struct _ | .array _ _ => true | _ => false) = true) (hi : (P.info? t1).map (·.size) = some cs.size)
    (hu' : P.underlying t2 = some d') (hd' : (match d' with | .struct _ | .array _ _ => true | _ => false) = true) (hi' : (P.info? t2).map (·.size) = some cs'.size) (hv : tmps.getD 4 undef = v) :
    (results fn tmps).run P w = .ok (.tuple #[.agg cs, .agg cs', v]) w := by
  have q : tmps[2]?.getD undef = .pointer (some ⟨g, 0, none⟩) := by simpa using hp
  have q' : tmps[3]?.getD undef = .pointer (some ⟨g', 0, none⟩) := by simpa using hp'
  have q2 : tmps[4]?.getD undef = v := by simpa using hv
  simp [results, h, q, q', q2, asAddr, run_loadVar_row w g t t1 cs fr d hg hu hd hi, run_loadVar_row w g' t' t2 cs' fr' d' hg' hu' hd' hi']
theorem Blk.row {w : World} {g g' : Nat} {t : TypeId} {cs : Array Value} (h : Blk w g t cs) (hne : g ≠ g') (cs' : Array Value) : Blk (w.setRow g' cs') g t cs := by
  unfold Blk at *
  unfold World.setRow
  simp only [Array.getElem?_modify]
  rw [if_neg (fun e => hne e.symm)]
  exact h

abbrev zeroS : Array Value := cellsOf 0 0 0 0 0 0 0 0 0
abbrev zeroW : Array Value := wantCells [0, 0, 0, 0, 0, 0, 0, 0]
theorem info_w : (Tryd.prog.info? 46).map (·.size) = some 8 := by kernel_rfl
theorem want_one (n0 n1 n2 n3 n4 n5 n6 n7 : Int) : (wantCells [n0, n1, n2, n3, n4, n5, n6, n7]).all (·.oneCell') = true := by simp [wantCells, Value.oneCell']
theorem ends_lt {n0 n1 n2 n3 n4 n5 n6 n7 : Nat} (h : ∀ x ∈ [(n0 : Int), n1, n2, n3, n4, n5, n6, n7], Ct x) : ∀ n ∈ [n0, n1, n2, n3, n4, n5, n6, n7], n < 18446744073709551616 := by
  intro n hn
  have h1 := h (n : Int) (by simp only [List.mem_cons, List.mem_nil_iff, or_false] at hn ⊢; omega)
  unfold Ct at h1; omega
/-- what holds at the head of each round: w0 the world at the call -/
def OfS (w0 : World) (l : List Int) (r : Nat) (w : World) : Prop :=
  (l.length = 8 ∧ ∀ x ∈ l, Ct x) ∧ r ≤ one ∧ Blk w (w0.heap.size + 1 + 1) 48 (statCells l r) ∧ Blk w (w0.heap.size + 1 + 1 + 1) 46 (wantCells l) ∧
    Blk w w0.heap.size 48 zeroS ∧ Blk w (w0.heap.size + 1) 46 zeroW ∧ Below w0.heap.size w0 w
section
variable {w0 w w2 : World} {l : List Int} {r : Nat}
theorem OfS.drew (h : OfS w0 l r w) : OfS w0 l r w.drew := ⟨h.1, h.2.1, h.2.2.1.drew, h.2.2.2.1.drew, h.2.2.2.2.1.drew, h.2.2.2.2.2.1.drew, ⟨h.2.2.2.2.2.2.os, h.2.2.2.2.2.2.tape, h.2.2.2.2.2.2.output, h.2.2.2.2.2.2.size, h.2.2.2.2.2.2.block⟩⟩
theorem OfS.alloc (h : OfS w0 l r w) (o : Obj) : OfS w0 l r (w.alloc o) :=
  ⟨h.1, h.2.1, h.2.2.1.alloc o, h.2.2.2.1.alloc o, h.2.2.2.2.1.alloc o, h.2.2.2.2.2.1.alloc o, h.2.2.2.2.2.2.alloc h.2.2.2.2.2.2.size o⟩
theorem OfS.lt (h : OfS w0 l r w) : w0.heap.size + 1 + 1 + 1 < w.heap.size := h.2.2.2.1.lt
theorem wantCells_at {k : Nat} {v : Int} (h : l[k]? = some v) : (wantCells l)[k]? = some (.int .u64 v) := by
  unfold wantCells; rw [List.getElem?_toArray, List.getElem?_map, h]; rfl
theorem wantCells_set {k : Nat} (v : Int) : (wantCells l).setIfInBounds k (.int .u64 v) = wantCells (l.set k v) := by
  unfold wantCells; rw [List.setIfInBounds_toArray, List.map_set]
/-- the counts turned (block h + 2), then the wanted ones (block h + 3) -/
theorem OfS.step (h : OfS w0 l r w) {l' : List Int} {r' : Nat} (hg : w.grownBy w2 (some (w0.heap.size + 1 + 1))) (hB : Blk w2 (w0.heap.size + 1 + 1) 48 (statCells l' r'))
    (hl : l'.length = 8 ∧ ∀ x ∈ l', Ct x) (hr : r' ≤ one) {w3 : World} (hg3 : w2.grownBy w3 (some (w0.heap.size + 1 + 1 + 1))) (hW : Blk w3 (w0.heap.size + 1 + 1 + 1) 46 (wantCells l')) : OfS w0 l' r' w3 :=
  ⟨hl, hr, hB.grown hg3 (by simp), hW, (h.2.2.2.2.1.grown hg (by first | (simp; done) | (simp; omega))).grown hg3 (by first | (simp; done) | (simp; omega)), (h.2.2.2.2.2.1.grown hg (by first | (simp; done) | (simp; omega))).grown hg3 (by first | (simp; done) | (simp; omega)),
    below_gb (below_gb h.2.2.2.2.2.2 hg h.2.2.2.2.2.2.size (by omega)) hg3 (Nat.le_trans h.2.2.2.2.2.2.size hg.size) (by omega)⟩
theorem OfS.want (h : OfS w0 l r w) (hg : w.grownBy w2 (some (w0.heap.size + 1 + 1))) : Blk w2 (w0.heap.size + 1 + 1 + 1) 46 (wantCells l) := h.2.2.2.1.grown hg (by simp)
theorem ct_set (h : l.length = 8 ∧ ∀ x ∈ l, Ct x) {k : Nat} {v : Int} (hv : Ct v) : (l.set k v).length = 8 ∧ ∀ x ∈ l.set k v, Ct x :=
  ⟨by simp [h.1], fun x hx => by rcases List.mem_or_eq_of_mem_set hx with h1 | h1; exact h.2 x h1; exact h1 ▸ hv⟩
theorem eight_list (h : l.length = 8) : ∃ n0 n1 n2 n3 n4 n5 n6 n7, l = [n0, n1, n2, n3, n4, n5, n6, n7] := by
  rcases l with _ | ⟨n0, _ | ⟨n1, _ | ⟨n2, _ | ⟨n3, _ | ⟨n4, _ | ⟨n5, _ | ⟨n6, _ | ⟨n7, _ | ⟨n8, l⟩⟩⟩⟩⟩⟩⟩⟩⟩ <;> simp at h
  exact ⟨_, _, _, _, _, _, _, _, rfl⟩
end

set_option maxRecDepth 100000 in
set_option maxHeartbeats 8000000 in
theorem of_any (A : Option Addr) (len cap : Nat) (hlc : len ≤ cap) (hcm : cap ≤ maxLen) (w : World) (hev : Hid (∀ i < len, ∃ a, A = some a ∧ ∃ k n h b, EvAt w (a.add (i * 4)) k n h b)) :
    Calls Tryd.prog 33 #[.slice A len cap] w fun e w' => ∃ (n0 n1 n2 n3 n4 n5 n6 n7 r : Nat), (∀ n ∈ [n0, n1, n2, n3, n4, n5, n6, n7], n < 18446744073709551616) ∧ r ≤ one ∧
      e = .returned (.tuple #[.agg (cellsOf n0 n1 n2 n3 n4 n5 n6 n7 r), .agg (wantCells [n0, n1, n2, n3, n4, n5, n6, n7]), .float .f64 r]) ∧ Below w.heap.size w w' := by
  go_enter Tryd.func33, Tryd.ntmps33
  go_wp2_with fail
  go_loopw [7, 8] (fun s7 s8 wr => ∃ (i : Nat) (l : List Int) (r : Nat), i ≤ len ∧ i ≤ 30 ∧ s7 = .float .f64 r ∧ s8 = .int .i64 i ∧ Hid (OfS w l r wr)) (fun _ s8 _ => 30 - (intOf s8).toNat)
  case atStart =>
    refine ⟨0, [0, 0, 0, 0, 0, 0, 0, 0], 0, Nat.zero_le _, Nat.zero_le _, rfl, rfl, ⟨rfl, fun x hx => ?_⟩, Nat.zero_le _, ?_, ?_, ?_, ?_, ?_⟩
    · simp at hx; subst hx; unfold Ct; omega
    · have h := (Blk.new ((w.alloc (.cells zeroS 48)).alloc (.cells zeroW 46)) 48 zeroS).alloc (.cells zeroW 46)
      rw [size_alloc, size_alloc] at h
      exact h
    · have h := Blk.new (((w.alloc (.cells zeroS 48)).alloc (.cells zeroW 46)).alloc (.cells zeroS 48)) 46 zeroW
      rw [size_alloc, size_alloc, size_alloc] at h
      exact h
    · exact (((Blk.new w 48 zeroS).alloc _).alloc _).alloc _
    · have h := ((Blk.new (w.alloc (.cells zeroS 48)) 46 zeroW).alloc (.cells zeroS 48)).alloc (.cells zeroW 46)
      rw [size_alloc] at h
      exact h
    · exact ((((Below.refl _ _).alloc (Nat.le_refl _) _).alloc (by simp) _).alloc (by simp; omega) _).alloc (by simp; omega) _
  case round =>
    obtain ⟨i, l, r, hi, hi30, rfl, rfl, hO⟩ := hrel
    by_cases hlt : i < len
    · by_cases hlt30 : i < 30
      · obtain ⟨a, rfl, k, n, h, b, hblk, c0, c1, c2, c3, hn, hb⟩ := hev.out i hlt
        obtain ⟨p, hp⟩ : ∃ p, p = a.add (i * 4) := ⟨_, rfl⟩
        rw [← hp] at hblk c0 c1 c2 c3
        have HP := Lib.hid hp.symm
        have hbel := hO.out.2.2.2.2.2.2
        have b0 : wr.cell? p = some (.int .i64 k) := (hbel.cell hblk).trans c0
        have b1 : wr.cell? ⟨p.block, p.off + 1, none⟩ = some (.int .u64 n) := (hbel.cell (p := ⟨p.block, p.off + 1, none⟩) hblk).trans c1
        have b2 : wr.cell? ⟨p.block, p.off + 2, none⟩ = some (.bool h) := (hbel.cell (p := ⟨p.block, p.off + 2, none⟩) hblk).trans c2
        have b3 : wr.cell? ⟨p.block, p.off + 3, none⟩ = some (.int .u64 b) := (hbel.cell (p := ⟨p.block, p.off + 3, none⟩) hblk).trans c3
        have hp' : a.add (i * 4) = p := HP.out
        have hn' : Hid (Ct n) := by show Ct _; unfold Ct; omega
        have hb' : Hid (Wd b) := by show Wd _; unfold Wd; omega
        have hsz : w.heap.size + 1 + 1 + 1 < wr.heap.size := hO.out.lt
        clear c0 c1 c2 c3 hp hbel hb hn hblk
        by_cases hk : 0 ≤ k ∧ k < 8
        · obtain ⟨hk0, hk8⟩ := hk
          obtain ⟨kn, rfl⟩ := Int.eq_ofNat_of_zero_le hk0
          have hk8' : kn < 8 := by omega
          obtain ⟨x, hx⟩ : ∃ x, l[kn]? = some x := ⟨_, List.getElem?_eq_getElem (by have := hO.out.1.1; omega)⟩
          have hCx : Hid (Ct x) := hO.out.1.2 x (List.mem_of_getElem? hx)
          have HXL := Lib.hid hx
          clear hx hk0
          have k1 : (-1 : Int) ≤ (kn : Int) := by omega
          have k2 : (kn : Int) ≤ 8 := by omega
          go_wp2_with fail
          have hO1 := hO.out.alloc (.cells #[.int .i64 kn, .int .u64 n, .bool h, .int .u64 b] 74)
          refine (add_blk (w.heap.size + 1 + 1) kn hk8' x n hCx hn' _ (statCells l r) hO1.2.2.1 (statCells_at HXL.out)).mono ?_
          rintro e w2 ⟨rfl, hS2, hg2⟩
          rw [statCells_set _ (by rw [hO.out.1.1]; exact hk8')] at hS2
          have hE2 := (Blk.new wr 74 #[.int .i64 kn, .int .u64 n, .bool h, .int .u64 b]).grown hg2 (by simp; omega)
          have hW2 := hO1.want hg2
          have e0 : w2.cell? ⟨wr.heap.size, 0, none⟩ = some (.int .i64 kn) := hE2.cell 0
          have e1 : w2.cell? ⟨wr.heap.size, 1, none⟩ = some (.int .u64 n) := hE2.cell 1
          have cw : w2.cell? ⟨w.heap.size + 1 + 1 + 1, kn, none⟩ = some (.int .u64 x) := (hW2.cell kn).trans (wantCells_at HXL.out)
          have fw : w2.frozen? ⟨w.heap.size + 1 + 1 + 1, kn, none⟩ = false := hW2.frozen kn
          have fin : Hid (OfS w (l.set kn (sumU x n)) r (w2.setCell ⟨w.heap.size + 1 + 1 + 1, kn, none⟩ (.int .u64 (sumU x n)))) :=
            hO1.step hg2 hS2 (ct_set hO.out.1 (sumU_ct hCx.out hn'.out)) hO.out.2.1 (gb_set (gb_refl _ _) (.inl rfl) _) (by rw [← wantCells_set]; exact hW2.set_ kn _)
          clear b0 b1 b2 b3 hp' hS2 hg2 hE2 hW2 hO1
          go_wp2_with fail
          go_region_law (first | (go_simp; go_at_call 36; refine (refSum_any _ _ hCx hn' _).mono ?_; rintro e w' ⟨rfl, rfl⟩))
          all_goals
            go_wp2_with fail
            go_roundw
            case rel => exact ⟨i + 1, _, _, by omega, by omega, rfl, by go_num, fin.out.drew⟩
            case measure => simp [intOf]; omega
        · by_cases hk2 : k = -1
          · subst hk2
            have hO1 := hO.out.alloc (.cells #[.int .i64 (-1), .int .u64 n, .bool h, .int .u64 b] 74)
            have hE2 := (Blk.new wr 74 #[.int .i64 (-1), .int .u64 n, .bool h, .int .u64 b])
            have e0 : (wr.alloc (.cells #[.int .i64 (-1), .int .u64 n, .bool h, .int .u64 b] 74)).cell? ⟨wr.heap.size, 0, none⟩ = some (.int .i64 (-1)) := hE2.cell 0
            have HO1 := Lib.hid hO1
            clear hO1 hE2
            go_wp2_with fail
            refine (add_out _ _ (by omega) _ _).mono ?_
            rintro e w2 ⟨rfl, rfl⟩
            go_wp2_with fail
            go_roundw
            case rel => exact ⟨i + 1, _, _, by omega, by omega, rfl, by go_num, HO1.out⟩
            case measure => simp [intOf]; omega
          · by_cases hk3 : k = 8
            · subst hk3
              have hO1 := hO.out.alloc (.cells #[.int .i64 (8), .int .u64 n, .bool h, .int .u64 b] 74)
              have hE2 := (Blk.new wr 74 #[.int .i64 (8), .int .u64 n, .bool h, .int .u64 b])
              have e0 : (wr.alloc (.cells #[.int .i64 (8), .int .u64 n, .bool h, .int .u64 b] 74)).cell? ⟨wr.heap.size, 0, none⟩ = some (.int .i64 (8)) := hE2.cell 0
              have HO1 := Lib.hid hO1
              clear hO1 hE2
              go_wp2_with fail
              refine (add_out _ _ (by omega) _ _).mono ?_
              rintro e w2 ⟨rfl, rfl⟩
              go_wp2_with fail
              go_roundw
              case rel => exact ⟨i + 1, _, _, by omega, by omega, rfl, by go_num, HO1.out⟩
              case measure => simp [intOf]; omega
            · obtain ⟨n0, n1, n2, n3, n4, n5, n6, n7, rfl⟩ := eight_list hO.out.1.1
              have hc0 : Hid (Ct n0) := hO.out.1.2 n0 (by simp)
              have hc1 : Hid (Ct n1) := hO.out.1.2 n1 (by simp)
              have hrw : Hid (Wd r) := le_one_wd hO.out.2.1
              by_cases hd : k < -1
              · have t1 : ¬ (-1 : Int) ≤ k := by omega
                cases h
                · have hO1 := hO.out.alloc (.cells #[.int .i64 k, .int .u64 n, .bool false, .int .u64 b] 74)
                  have hE1 := (Blk.new wr 74 #[.int .i64 k, .int .u64 n, .bool false, .int .u64 b])
                  have hB1 : Hid (Blk (wr.alloc (.cells #[.int .i64 k, .int .u64 n, .bool false, .int .u64 b] 74)) (w.heap.size + 1 + 1) 48 (cellsOf n0 n1 n2 n3 n4 n5 n6 n7 r)) := hO1.2.2.1
                  have HO1 := Lib.hid hO1; have HE1 := Lib.hid hE1
                  clear hO1 hE1
                  go_wp2_with fail
                  refine (asked_miss (w.heap.size + 1 + 1) n0 n1 n2 n3 n4 n5 n6 n7 r b _ hB1 hc0 hrw hb').mono ?_
                  rintro e w2 ⟨rfl, hS2, hg2⟩
                  have hE2 := HE1.out.grown hg2 (by simp; omega)
                  have hW2 := HO1.out.want hg2
                  have e2 : w2.cell? ⟨wr.heap.size, 2, none⟩ = some (.bool false) := hE2.cell 2
                  have cw0 : w2.cell? ⟨w.heap.size + 1 + 1 + 1, 0, none⟩ = some (.int .u64 n0) := hW2.cell 0
                  have fw0 : w2.frozen? ⟨w.heap.size + 1 + 1 + 1, 0, none⟩ = false := hW2.frozen 0
                  have hW3 := hW2.set_ 0 (.int .u64 (sumU n0 1))
                  have e3 : (w2.setCell ⟨w.heap.size + 1 + 1 + 1, 0, none⟩ (.int .u64 (sumU n0 1))).cell? ⟨wr.heap.size, 2, none⟩ = some (.bool false) := (hE2.far (by simp; omega) _).cell 2
                  have fin : Hid (OfS w [sumU n0 1, n1, n2, n3, n4, n5, n6, n7] (blendW r 0 b) (w2.setCell ⟨w.heap.size + 1 + 1 + 1, 0, none⟩ (.int .u64 (sumU n0 1)))) :=
                    HO1.out.step (l' := [sumU n0 1, n1, n2, n3, n4, n5, n6, n7]) (r' := blendW r 0 b) hg2 hS2 (ct_set (k := 0) hO.out.1 (sumU_ct hc0.out ct_one.out)) (blendW_le _ _ _) (gb_set (gb_refl _ _) (.inl rfl) _) hW3
                  clear b0 b1 b2 b3 hp' hS2 hg2 hE2 hW2 hW3
                  go_wp2_with fail
                  refine (refSum_any _ _ hc0 ct_one _).mono ?_
                  rintro e w3 ⟨rfl, rfl⟩
                  go_wp2_with fail
                  refine (blend_any r 0 b hrw (le_one_wd (Nat.zero_le _)) hb' _).mono ?_
                  rintro e w3 ⟨rfl, rfl⟩
                  go_wp2_with fail
                  go_roundw
                  case rel => exact ⟨i + 1, _, _, by omega, by omega, rfl, by go_num, fin.out⟩
                  case measure => simp [intOf]; omega
                · have hO1 := hO.out.alloc (.cells #[.int .i64 k, .int .u64 n, .bool true, .int .u64 b] 74)
                  have hE1 := (Blk.new wr 74 #[.int .i64 k, .int .u64 n, .bool true, .int .u64 b])
                  have hB1 : Hid (Blk (wr.alloc (.cells #[.int .i64 k, .int .u64 n, .bool true, .int .u64 b] 74)) (w.heap.size + 1 + 1) 48 (cellsOf n0 n1 n2 n3 n4 n5 n6 n7 r)) := hO1.2.2.1
                  have HO1 := Lib.hid hO1; have HE1 := Lib.hid hE1
                  clear hO1 hE1
                  go_wp2_with fail
                  refine (asked_hit (w.heap.size + 1 + 1) n0 n1 n2 n3 n4 n5 n6 n7 r b _ hB1 hc0 hc1 hrw hb').mono ?_
                  rintro e w2 ⟨rfl, hS2, hg2⟩
                  have hE2 := HE1.out.grown hg2 (by simp; omega)
                  have hW2 := HO1.out.want hg2
                  have e2 : w2.cell? ⟨wr.heap.size, 2, none⟩ = some (.bool true) := hE2.cell 2
                  have cw0 : w2.cell? ⟨w.heap.size + 1 + 1 + 1, 0, none⟩ = some (.int .u64 n0) := hW2.cell 0
                  have fw0 : w2.frozen? ⟨w.heap.size + 1 + 1 + 1, 0, none⟩ = false := hW2.frozen 0
                  have hW3 := hW2.set_ 0 (.int .u64 (sumU n0 1))
                  have e3 : (w2.setCell ⟨w.heap.size + 1 + 1 + 1, 0, none⟩ (.int .u64 (sumU n0 1))).cell? ⟨wr.heap.size, 2, none⟩ = some (.bool true) := (hE2.far (by simp; omega) _).cell 2
                  have cw1 : (w2.setCell ⟨w.heap.size + 1 + 1 + 1, 0, none⟩ (.int .u64 (sumU n0 1))).cell? ⟨w.heap.size + 1 + 1 + 1, 1, none⟩ = some (.int .u64 n1) := hW3.cell 1
                  have fw1 : (w2.setCell ⟨w.heap.size + 1 + 1 + 1, 0, none⟩ (.int .u64 (sumU n0 1))).frozen? ⟨w.heap.size + 1 + 1 + 1, 1, none⟩ = false := hW3.frozen 1
                  have fin : Hid (OfS w [sumU n0 1, sumU n1 1, n2, n3, n4, n5, n6, n7] (blendW r one b) ((w2.setCell ⟨w.heap.size + 1 + 1 + 1, 0, none⟩ (.int .u64 (sumU n0 1))).setCell ⟨w.heap.size + 1 + 1 + 1, 1, none⟩ (.int .u64 (sumU n1 1)))) :=
                    HO1.out.step (l' := [sumU n0 1, sumU n1 1, n2, n3, n4, n5, n6, n7]) (r' := blendW r one b) hg2 hS2 (ct_set (k := 1) (ct_set (k := 0) hO.out.1 (sumU_ct hc0.out ct_one.out)) (sumU_ct hc1.out ct_one.out)) (blendW_le _ _ _) (gb_set (p := ⟨w.heap.size + 1 + 1 + 1, 1, none⟩) (gb_set (p := ⟨w.heap.size + 1 + 1 + 1, 0, none⟩) (gb_refl w2 (some (w.heap.size + 1 + 1 + 1))) (.inl rfl) _) (.inl rfl) _) (hW3.set_ 1 _)
                  clear b0 b1 b2 b3 hp' hS2 hg2 hE2 hW2 hW3
                  go_wp2_with fail
                  refine (refSum_any _ _ hc0 ct_one _).mono ?_
                  rintro e w3 ⟨rfl, rfl⟩
                  go_wp2_with fail
                  refine (refSum_any _ _ hc1 ct_one _).mono ?_
                  rintro e w3 ⟨rfl, rfl⟩
                  go_wp2_with fail
                  refine (blend_any r one b hrw one_wd hb' _).mono ?_
                  rintro e w3 ⟨rfl, rfl⟩
                  go_wp2_with fail
                  go_roundw
                  case rel => exact ⟨i + 1, _, _, by omega, by omega, rfl, by go_num, fin.out⟩
                  case measure => simp [intOf]; omega
              · have t1 : (-1 : Int) ≤ k := by omega
                have t2 : ¬ k ≤ 8 := by omega
                cases h
                · have hO1 := hO.out.alloc (.cells #[.int .i64 k, .int .u64 n, .bool false, .int .u64 b] 74)
                  have hE1 := (Blk.new wr 74 #[.int .i64 k, .int .u64 n, .bool false, .int .u64 b])
                  have hB1 : Hid (Blk (wr.alloc (.cells #[.int .i64 k, .int .u64 n, .bool false, .int .u64 b] 74)) (w.heap.size + 1 + 1) 48 (cellsOf n0 n1 n2 n3 n4 n5 n6 n7 r)) := hO1.2.2.1
                  have HO1 := Lib.hid hO1; have HE1 := Lib.hid hE1
                  clear hO1 hE1
                  go_wp2_with fail
                  refine (asked_miss (w.heap.size + 1 + 1) n0 n1 n2 n3 n4 n5 n6 n7 r b _ hB1 hc0 hrw hb').mono ?_
                  rintro e w2 ⟨rfl, hS2, hg2⟩
                  have hE2 := HE1.out.grown hg2 (by simp; omega)
                  have hW2 := HO1.out.want hg2
                  have e2 : w2.cell? ⟨wr.heap.size, 2, none⟩ = some (.bool false) := hE2.cell 2
                  have cw0 : w2.cell? ⟨w.heap.size + 1 + 1 + 1, 0, none⟩ = some (.int .u64 n0) := hW2.cell 0
                  have fw0 : w2.frozen? ⟨w.heap.size + 1 + 1 + 1, 0, none⟩ = false := hW2.frozen 0
                  have hW3 := hW2.set_ 0 (.int .u64 (sumU n0 1))
                  have e3 : (w2.setCell ⟨w.heap.size + 1 + 1 + 1, 0, none⟩ (.int .u64 (sumU n0 1))).cell? ⟨wr.heap.size, 2, none⟩ = some (.bool false) := (hE2.far (by simp; omega) _).cell 2
                  have fin : Hid (OfS w [sumU n0 1, n1, n2, n3, n4, n5, n6, n7] (blendW r 0 b) (w2.setCell ⟨w.heap.size + 1 + 1 + 1, 0, none⟩ (.int .u64 (sumU n0 1)))) :=
                    HO1.out.step (l' := [sumU n0 1, n1, n2, n3, n4, n5, n6, n7]) (r' := blendW r 0 b) hg2 hS2 (ct_set (k := 0) hO.out.1 (sumU_ct hc0.out ct_one.out)) (blendW_le _ _ _) (gb_set (gb_refl _ _) (.inl rfl) _) hW3
                  clear b0 b1 b2 b3 hp' hS2 hg2 hE2 hW2 hW3
                  go_wp2_with fail
                  refine (refSum_any _ _ hc0 ct_one _).mono ?_
                  rintro e w3 ⟨rfl, rfl⟩
                  go_wp2_with fail
                  refine (blend_any r 0 b hrw (le_one_wd (Nat.zero_le _)) hb' _).mono ?_
                  rintro e w3 ⟨rfl, rfl⟩
                  go_wp2_with fail
                  go_roundw
                  case rel => exact ⟨i + 1, _, _, by omega, by omega, rfl, by go_num, fin.out⟩
                  case measure => simp [intOf]; omega
                · have hO1 := hO.out.alloc (.cells #[.int .i64 k, .int .u64 n, .bool true, .int .u64 b] 74)
                  have hE1 := (Blk.new wr 74 #[.int .i64 k, .int .u64 n, .bool true, .int .u64 b])
                  have hB1 : Hid (Blk (wr.alloc (.cells #[.int .i64 k, .int .u64 n, .bool true, .int .u64 b] 74)) (w.heap.size + 1 + 1) 48 (cellsOf n0 n1 n2 n3 n4 n5 n6 n7 r)) := hO1.2.2.1
                  have HO1 := Lib.hid hO1; have HE1 := Lib.hid hE1
                  clear hO1 hE1
                  go_wp2_with fail
                  refine (asked_hit (w.heap.size + 1 + 1) n0 n1 n2 n3 n4 n5 n6 n7 r b _ hB1 hc0 hc1 hrw hb').mono ?_
                  rintro e w2 ⟨rfl, hS2, hg2⟩
                  have hE2 := HE1.out.grown hg2 (by simp; omega)
                  have hW2 := HO1.out.want hg2
                  have e2 : w2.cell? ⟨wr.heap.size, 2, none⟩ = some (.bool true) := hE2.cell 2
                  have cw0 : w2.cell? ⟨w.heap.size + 1 + 1 + 1, 0, none⟩ = some (.int .u64 n0) := hW2.cell 0
                  have fw0 : w2.frozen? ⟨w.heap.size + 1 + 1 + 1, 0, none⟩ = false := hW2.frozen 0
                  have hW3 := hW2.set_ 0 (.int .u64 (sumU n0 1))
                  have e3 : (w2.setCell ⟨w.heap.size + 1 + 1 + 1, 0, none⟩ (.int .u64 (sumU n0 1))).cell? ⟨wr.heap.size, 2, none⟩ = some (.bool true) := (hE2.far (by simp; omega) _).cell 2
                  have cw1 : (w2.setCell ⟨w.heap.size + 1 + 1 + 1, 0, none⟩ (.int .u64 (sumU n0 1))).cell? ⟨w.heap.size + 1 + 1 + 1, 1, none⟩ = some (.int .u64 n1) := hW3.cell 1
                  have fw1 : (w2.setCell ⟨w.heap.size + 1 + 1 + 1, 0, none⟩ (.int .u64 (sumU n0 1))).frozen? ⟨w.heap.size + 1 + 1 + 1, 1, none⟩ = false := hW3.frozen 1
                  have fin : Hid (OfS w [sumU n0 1, sumU n1 1, n2, n3, n4, n5, n6, n7] (blendW r one b) ((w2.setCell ⟨w.heap.size + 1 + 1 + 1, 0, none⟩ (.int .u64 (sumU n0 1))).setCell ⟨w.heap.size + 1 + 1 + 1, 1, none⟩ (.int .u64 (sumU n1 1)))) :=
                    HO1.out.step (l' := [sumU n0 1, sumU n1 1, n2, n3, n4, n5, n6, n7]) (r' := blendW r one b) hg2 hS2 (ct_set (k := 1) (ct_set (k := 0) hO.out.1 (sumU_ct hc0.out ct_one.out)) (sumU_ct hc1.out ct_one.out)) (blendW_le _ _ _) (gb_set (p := ⟨w.heap.size + 1 + 1 + 1, 1, none⟩) (gb_set (p := ⟨w.heap.size + 1 + 1 + 1, 0, none⟩) (gb_refl w2 (some (w.heap.size + 1 + 1 + 1))) (.inl rfl) _) (.inl rfl) _) (hW3.set_ 1 _)
                  clear b0 b1 b2 b3 hp' hS2 hg2 hE2 hW2 hW3
                  go_wp2_with fail
                  refine (refSum_any _ _ hc0 ct_one _).mono ?_
                  rintro e w3 ⟨rfl, rfl⟩
                  go_wp2_with fail
                  refine (refSum_any _ _ hc1 ct_one _).mono ?_
                  rintro e w3 ⟨rfl, rfl⟩
                  go_wp2_with fail
                  refine (blend_any r one b hrw one_wd hb' _).mono ?_
                  rintro e w3 ⟨rfl, rfl⟩
                  go_wp2_with fail
                  go_roundw
                  case rel => exact ⟨i + 1, _, _, by omega, by omega, rfl, by go_num, fin.out⟩
                  case measure => simp [intOf]; omega
      · -- END30
        obtain ⟨m0, m1, m2, m3, m4, m5, m6, m7, rfl⟩ := eight_list hO.out.1.1
        have hcs : ∀ x ∈ [m0, m1, m2, m3, m4, m5, m6, m7], Ct x := hO.out.1.2
        obtain ⟨q0, rfl⟩ := Int.eq_ofNat_of_zero_le (hcs m0 (by simp)).1
        obtain ⟨q1, rfl⟩ := Int.eq_ofNat_of_zero_le (hcs m1 (by simp)).1
        obtain ⟨q2, rfl⟩ := Int.eq_ofNat_of_zero_le (hcs m2 (by simp)).1
        obtain ⟨q3, rfl⟩ := Int.eq_ofNat_of_zero_le (hcs m3 (by simp)).1
        obtain ⟨q4, rfl⟩ := Int.eq_ofNat_of_zero_le (hcs m4 (by simp)).1
        obtain ⟨q5, rfl⟩ := Int.eq_ofNat_of_zero_le (hcs m5 (by simp)).1
        obtain ⟨q6, rfl⟩ := Int.eq_ofNat_of_zero_le (hcs m6 (by simp)).1
        obtain ⟨q7, rfl⟩ := Int.eq_ofNat_of_zero_le (hcs m7 (by simp)).1
        have hq : Hid (∀ n ∈ [q0, q1, q2, q3, q4, q5, q6, q7], n < 18446744073709551616) := ends_lt hcs
        clear hcs
        have hO0 := hO.out.drew
        have A0 : Hid (Blk wr.drew (w.heap.size + 1 + 1) 48 (cellsOf q0 q1 q2 q3 q4 q5 q6 q7 r)) := hO0.2.2.1
        have B0 : Hid (Blk wr.drew (w.heap.size + 1 + 1 + 1) 46 (wantCells [(q0 : Int), q1, q2, q3, q4, q5, q6, q7])) := hO0.2.2.2.1
        have C0 : Hid (Blk wr.drew w.heap.size 48 zeroS) := hO0.2.2.2.2.1
        have D0 : Hid (Blk wr.drew (w.heap.size + 1) 46 zeroW) := hO0.2.2.2.2.2.1
        have E0 : Hid (Below w.heap.size w wr.drew) := hO0.2.2.2.2.2.2
        clear hO0
        go_wp2_with fail
        refine wp_region_any (by kernel_rfl) ?_
        try (change wpAny _ _ _ _ _ _ _ (World.drew _))
        refine wpAny_take (i := 2) (v := .float .f64 r) rfl (by kernel_rfl) (by kernel_rfl) (by kernel_rfl) (fun _ _ _ h => h) (Or.inl ⟨by rfl, ?_⟩) ?_
        · intro w; go_simp
        refine any_two (i := 0) (j := 1) (o := ⟨some 78, .load 48 (.tmp 5), 48, "law.go:55", #[], none⟩) (o' := ⟨some 79, .load 46 (.tmp 6), 46, "law.go:55", #[⟨3, .gcOnly .lateStores⟩], none⟩) rfl rfl (by kernel_rfl) (fun K hK => ?_) (fun K hK => ?_)
        · refine step_load_row (by rfl) 48 (.tmp 5) (by rfl) (w.heap.size + 1 + 1) (by rfl) 48 (cellsOf q0 q1 q2 q3 q4 q5 q6 q7 r) _ _ A0.out Tryd.underlying48 rfl info_st ?_
          refine hK _ _ ?_; clear hK K; try simp only [Act.put, List.setIfInBounds_toArray, List.set_cons_zero, List.set_cons_succ]
          refine any_two (i := 1) (j := 3) (o := ⟨some 79, .load 46 (.tmp 6), 46, "law.go:55", #[⟨3, .gcOnly .lateStores⟩], none⟩) (o' := ⟨none, .store 48 (.tmp 2) (.tmp 78), 0, "law.go:55", #[⟨0, .data⟩, ⟨0, .phase⟩, ⟨1, .textOnly .lateStores⟩, ⟨2, .textOnly .lateStores⟩], none⟩) rfl rfl (by kernel_rfl) (fun K hK => ?_) (fun K hK => ?_)
          · refine step_load_row (by rfl) 46 (.tmp 6) (by rfl) (w.heap.size + 1 + 1 + 1) (by rfl) 46 (wantCells [(q0 : Int), q1, q2, q3, q4, q5, q6, q7]) _ _ B0.out Tryd.underlying46 rfl info_w ?_
            refine hK _ _ ?_; clear hK K; try simp only [Act.put, List.setIfInBounds_toArray, List.set_cons_zero, List.set_cons_succ]
            refine any_one (i := 3) (o := ⟨none, .store 48 (.tmp 2) (.tmp 78), 0, "law.go:55", #[⟨0, .data⟩, ⟨0, .phase⟩, ⟨1, .textOnly .lateStores⟩, ⟨2, .textOnly .lateStores⟩], none⟩) rfl (by kernel_rfl) (fun K hK => ?_)
            refine step_store_row (by rfl) 48 (.tmp 2) (.tmp 78) (by rfl) w.heap.size (cellsOf q0 q1 q2 q3 q4 q5 q6 q7 r) (by rfl) (by rfl) 48 zeroS C0.out info_st (by rfl) (cells_one _ _ _ _ _ _ _ _ _) ?_
            refine hK _ _ ?_; clear hK K; try simp only [Act.put, List.setIfInBounds_toArray, List.set_cons_zero, List.set_cons_succ]
            refine any_one (i := 4) (o := ⟨none, .store 46 (.tmp 3) (.tmp 79), 0, "law.go:55", #[⟨1, .data⟩, ⟨3, .chain⟩, ⟨0, .phase⟩, ⟨1, .phase⟩, ⟨2, .textOnly .lateStores⟩, ⟨3, .phase⟩], none⟩) rfl (by kernel_rfl) (fun K hK => ?_)
            refine step_store_row (by rfl) 46 (.tmp 3) (.tmp 79) (by rfl) (w.heap.size + 1) (wantCells [(q0 : Int), q1, q2, q3, q4, q5, q6, q7]) (by rfl) (by rfl) 46 zeroW (D0.out.row (by omega) _) info_w (by rfl) (want_one _ _ _ _ _ _ _ _) ?_
            refine hK _ _ ?_; clear hK K; try simp only [Act.put, List.setIfInBounds_toArray, List.set_cons_zero, List.set_cons_succ]
            refine any_one (i := 5) (o := ⟨some 4, .assign (.tmp 80), 24, "law.go:55", #[⟨2, .data⟩, ⟨4, .chain⟩, ⟨0, .phase⟩, ⟨1, .phase⟩, ⟨2, .phase⟩, ⟨3, .phase⟩, ⟨4, .phase⟩], none⟩) rfl (by kernel_rfl) (fun K hK => ?_)
            refine ⟨?_⟩
            go_simp
            refine hK _ _ ?_; clear hK K; try simp only [Act.put, List.setIfInBounds_toArray, List.set_cons_zero, List.set_cons_succ]
            refine wpAny_done (by kernel_rfl) ?_ _
            go_wp2_with fail
            exact ⟨rfl, _, results_of (fn := Tryd.f33) (by rfl) _ _ w.heap.size (w.heap.size + 1) 48 46 _ _ _ _ _ _ (.float .f64 r) (by rfl) (Blk.row (setRow_heap _ _ _ (cellsOf q0 q1 q2 q3 q4 q5 q6 q7 r) _ _ C0.out) (by omega) (wantCells [(q0 : Int), q1, q2, q3, q4, q5, q6, q7])) (by rfl) (setRow_heap _ _ _ (wantCells [(q0 : Int), q1, q2, q3, q4, q5, q6, q7]) _ _ (D0.out.row (by omega) _)) Tryd.underlying48 rfl info_st Tryd.underlying46 rfl info_w (by rfl), q0, q1, q2, q3, q4, q5, q6, q7, r, hq.out, hO.out.2.1, rfl, below_setRow (below_setRow E0.out (Nat.le_refl _) _) (by omega) _⟩
          · refine step_store_row (by rfl) 48 (.tmp 2) (.tmp 78) (by rfl) w.heap.size (cellsOf q0 q1 q2 q3 q4 q5 q6 q7 r) (by rfl) (by rfl) 48 zeroS C0.out info_st (by rfl) (cells_one _ _ _ _ _ _ _ _ _) ?_
            refine hK _ _ ?_; clear hK K; try simp only [Act.put, List.setIfInBounds_toArray, List.set_cons_zero, List.set_cons_succ]
            refine any_one (i := 1) (o := ⟨some 79, .load 46 (.tmp 6), 46, "law.go:55", #[⟨3, .gcOnly .lateStores⟩], none⟩) rfl (by kernel_rfl) (fun K hK => ?_)
            refine step_load_row (by rfl) 46 (.tmp 6) (by rfl) (w.heap.size + 1 + 1 + 1) (by rfl) 46 (wantCells [(q0 : Int), q1, q2, q3, q4, q5, q6, q7]) _ _ (B0.out.row (by omega) _) Tryd.underlying46 rfl info_w ?_
            refine hK _ _ ?_; clear hK K; try simp only [Act.put, List.setIfInBounds_toArray, List.set_cons_zero, List.set_cons_succ]
            refine any_one (i := 4) (o := ⟨none, .store 46 (.tmp 3) (.tmp 79), 0, "law.go:55", #[⟨1, .data⟩, ⟨3, .chain⟩, ⟨0, .phase⟩, ⟨1, .phase⟩, ⟨2, .textOnly .lateStores⟩, ⟨3, .phase⟩], none⟩) rfl (by kernel_rfl) (fun K hK => ?_)
            refine step_store_row (by rfl) 46 (.tmp 3) (.tmp 79) (by rfl) (w.heap.size + 1) (wantCells [(q0 : Int), q1, q2, q3, q4, q5, q6, q7]) (by rfl) (by rfl) 46 zeroW (D0.out.row (by omega) _) info_w (by rfl) (want_one _ _ _ _ _ _ _ _) ?_
            refine hK _ _ ?_; clear hK K; try simp only [Act.put, List.setIfInBounds_toArray, List.set_cons_zero, List.set_cons_succ]
            refine any_one (i := 5) (o := ⟨some 4, .assign (.tmp 80), 24, "law.go:55", #[⟨2, .data⟩, ⟨4, .chain⟩, ⟨0, .phase⟩, ⟨1, .phase⟩, ⟨2, .phase⟩, ⟨3, .phase⟩, ⟨4, .phase⟩], none⟩) rfl (by kernel_rfl) (fun K hK => ?_)
            refine ⟨?_⟩
            go_simp
            refine hK _ _ ?_; clear hK K; try simp only [Act.put, List.setIfInBounds_toArray, List.set_cons_zero, List.set_cons_succ]
            refine wpAny_done (by kernel_rfl) ?_ _
            go_wp2_with fail
            exact ⟨rfl, _, results_of (fn := Tryd.f33) (by rfl) _ _ w.heap.size (w.heap.size + 1) 48 46 _ _ _ _ _ _ (.float .f64 r) (by rfl) (Blk.row (setRow_heap _ _ _ (cellsOf q0 q1 q2 q3 q4 q5 q6 q7 r) _ _ C0.out) (by omega) (wantCells [(q0 : Int), q1, q2, q3, q4, q5, q6, q7])) (by rfl) (setRow_heap _ _ _ (wantCells [(q0 : Int), q1, q2, q3, q4, q5, q6, q7]) _ _ (D0.out.row (by omega) _)) Tryd.underlying48 rfl info_st Tryd.underlying46 rfl info_w (by rfl), q0, q1, q2, q3, q4, q5, q6, q7, r, hq.out, hO.out.2.1, rfl, below_setRow (below_setRow E0.out (Nat.le_refl _) _) (by omega) _⟩
        · refine step_load_row (by rfl) 46 (.tmp 6) (by rfl) (w.heap.size + 1 + 1 + 1) (by rfl) 46 (wantCells [(q0 : Int), q1, q2, q3, q4, q5, q6, q7]) _ _ B0.out Tryd.underlying46 rfl info_w ?_
          refine hK _ _ ?_; clear hK K; try simp only [Act.put, List.setIfInBounds_toArray, List.set_cons_zero, List.set_cons_succ]
          refine any_one (i := 0) (o := ⟨some 78, .load 48 (.tmp 5), 48, "law.go:55", #[], none⟩) rfl (by kernel_rfl) (fun K hK => ?_)
          refine step_load_row (by rfl) 48 (.tmp 5) (by rfl) (w.heap.size + 1 + 1) (by rfl) 48 (cellsOf q0 q1 q2 q3 q4 q5 q6 q7 r) _ _ A0.out Tryd.underlying48 rfl info_st ?_
          refine hK _ _ ?_; clear hK K; try simp only [Act.put, List.setIfInBounds_toArray, List.set_cons_zero, List.set_cons_succ]
          refine any_one (i := 3) (o := ⟨none, .store 48 (.tmp 2) (.tmp 78), 0, "law.go:55", #[⟨0, .data⟩, ⟨0, .phase⟩, ⟨1, .textOnly .lateStores⟩, ⟨2, .textOnly .lateStores⟩], none⟩) rfl (by kernel_rfl) (fun K hK => ?_)
          refine step_store_row (by rfl) 48 (.tmp 2) (.tmp 78) (by rfl) w.heap.size (cellsOf q0 q1 q2 q3 q4 q5 q6 q7 r) (by rfl) (by rfl) 48 zeroS C0.out info_st (by rfl) (cells_one _ _ _ _ _ _ _ _ _) ?_
          refine hK _ _ ?_; clear hK K; try simp only [Act.put, List.setIfInBounds_toArray, List.set_cons_zero, List.set_cons_succ]
          refine any_one (i := 4) (o := ⟨none, .store 46 (.tmp 3) (.tmp 79), 0, "law.go:55", #[⟨1, .data⟩, ⟨3, .chain⟩, ⟨0, .phase⟩, ⟨1, .phase⟩, ⟨2, .textOnly .lateStores⟩, ⟨3, .phase⟩], none⟩) rfl (by kernel_rfl) (fun K hK => ?_)
          refine step_store_row (by rfl) 46 (.tmp 3) (.tmp 79) (by rfl) (w.heap.size + 1) (wantCells [(q0 : Int), q1, q2, q3, q4, q5, q6, q7]) (by rfl) (by rfl) 46 zeroW (D0.out.row (by omega) _) info_w (by rfl) (want_one _ _ _ _ _ _ _ _) ?_
          refine hK _ _ ?_; clear hK K; try simp only [Act.put, List.setIfInBounds_toArray, List.set_cons_zero, List.set_cons_succ]
          refine any_one (i := 5) (o := ⟨some 4, .assign (.tmp 80), 24, "law.go:55", #[⟨2, .data⟩, ⟨4, .chain⟩, ⟨0, .phase⟩, ⟨1, .phase⟩, ⟨2, .phase⟩, ⟨3, .phase⟩, ⟨4, .phase⟩], none⟩) rfl (by kernel_rfl) (fun K hK => ?_)
          refine ⟨?_⟩
          go_simp
          refine hK _ _ ?_; clear hK K; try simp only [Act.put, List.setIfInBounds_toArray, List.set_cons_zero, List.set_cons_succ]
          refine wpAny_done (by kernel_rfl) ?_ _
          go_wp2_with fail
          exact ⟨rfl, _, results_of (fn := Tryd.f33) (by rfl) _ _ w.heap.size (w.heap.size + 1) 48 46 _ _ _ _ _ _ (.float .f64 r) (by rfl) (Blk.row (setRow_heap _ _ _ (cellsOf q0 q1 q2 q3 q4 q5 q6 q7 r) _ _ C0.out) (by omega) (wantCells [(q0 : Int), q1, q2, q3, q4, q5, q6, q7])) (by rfl) (setRow_heap _ _ _ (wantCells [(q0 : Int), q1, q2, q3, q4, q5, q6, q7]) _ _ (D0.out.row (by omega) _)) Tryd.underlying48 rfl info_st Tryd.underlying46 rfl info_w (by rfl), q0, q1, q2, q3, q4, q5, q6, q7, r, hq.out, hO.out.2.1, rfl, below_setRow (below_setRow E0.out (Nat.le_refl _) _) (by omega) _⟩
    · -- ENDLEN
      obtain ⟨m0, m1, m2, m3, m4, m5, m6, m7, rfl⟩ := eight_list hO.out.1.1
      have hcs : ∀ x ∈ [m0, m1, m2, m3, m4, m5, m6, m7], Ct x := hO.out.1.2
      obtain ⟨q0, rfl⟩ := Int.eq_ofNat_of_zero_le (hcs m0 (by simp)).1
      obtain ⟨q1, rfl⟩ := Int.eq_ofNat_of_zero_le (hcs m1 (by simp)).1
      obtain ⟨q2, rfl⟩ := Int.eq_ofNat_of_zero_le (hcs m2 (by simp)).1
      obtain ⟨q3, rfl⟩ := Int.eq_ofNat_of_zero_le (hcs m3 (by simp)).1
      obtain ⟨q4, rfl⟩ := Int.eq_ofNat_of_zero_le (hcs m4 (by simp)).1
      obtain ⟨q5, rfl⟩ := Int.eq_ofNat_of_zero_le (hcs m5 (by simp)).1
      obtain ⟨q6, rfl⟩ := Int.eq_ofNat_of_zero_le (hcs m6 (by simp)).1
      obtain ⟨q7, rfl⟩ := Int.eq_ofNat_of_zero_le (hcs m7 (by simp)).1
      have hq : Hid (∀ n ∈ [q0, q1, q2, q3, q4, q5, q6, q7], n < 18446744073709551616) := ends_lt hcs
      clear hcs
      have hO0 := hO.out.drew
      have A0 : Hid (Blk wr.drew (w.heap.size + 1 + 1) 48 (cellsOf q0 q1 q2 q3 q4 q5 q6 q7 r)) := hO0.2.2.1
      have B0 : Hid (Blk wr.drew (w.heap.size + 1 + 1 + 1) 46 (wantCells [(q0 : Int), q1, q2, q3, q4, q5, q6, q7])) := hO0.2.2.2.1
      have C0 : Hid (Blk wr.drew w.heap.size 48 zeroS) := hO0.2.2.2.2.1
      have D0 : Hid (Blk wr.drew (w.heap.size + 1) 46 zeroW) := hO0.2.2.2.2.2.1
      have E0 : Hid (Below w.heap.size w wr.drew) := hO0.2.2.2.2.2.2
      clear hO0
      go_wp2_with fail
      refine wp_region_any (by kernel_rfl) ?_
      try (change wpAny _ _ _ _ _ _ _ (World.drew _))
      refine wpAny_take (i := 2) (v := .float .f64 r) rfl (by kernel_rfl) (by kernel_rfl) (by kernel_rfl) (fun _ _ _ h => h) (Or.inl ⟨by rfl, ?_⟩) ?_
      · intro w; go_simp
      refine any_two (i := 0) (j := 1) (o := ⟨some 78, .load 48 (.tmp 5), 48, "law.go:55", #[], none⟩) (o' := ⟨some 79, .load 46 (.tmp 6), 46, "law.go:55", #[⟨3, .gcOnly .lateStores⟩], none⟩) rfl rfl (by kernel_rfl) (fun K hK => ?_) (fun K hK => ?_)
      · refine step_load_row (by rfl) 48 (.tmp 5) (by rfl) (w.heap.size + 1 + 1) (by rfl) 48 (cellsOf q0 q1 q2 q3 q4 q5 q6 q7 r) _ _ A0.out Tryd.underlying48 rfl info_st ?_
        refine hK _ _ ?_; clear hK K; try simp only [Act.put, List.setIfInBounds_toArray, List.set_cons_zero, List.set_cons_succ]
        refine any_two (i := 1) (j := 3) (o := ⟨some 79, .load 46 (.tmp 6), 46, "law.go:55", #[⟨3, .gcOnly .lateStores⟩], none⟩) (o' := ⟨none, .store 48 (.tmp 2) (.tmp 78), 0, "law.go:55", #[⟨0, .data⟩, ⟨0, .phase⟩, ⟨1, .textOnly .lateStores⟩, ⟨2, .textOnly .lateStores⟩], none⟩) rfl rfl (by kernel_rfl) (fun K hK => ?_) (fun K hK => ?_)
        · refine step_load_row (by rfl) 46 (.tmp 6) (by rfl) (w.heap.size + 1 + 1 + 1) (by rfl) 46 (wantCells [(q0 : Int), q1, q2, q3, q4, q5, q6, q7]) _ _ B0.out Tryd.underlying46 rfl info_w ?_
          refine hK _ _ ?_; clear hK K; try simp only [Act.put, List.setIfInBounds_toArray, List.set_cons_zero, List.set_cons_succ]
          refine any_one (i := 3) (o := ⟨none, .store 48 (.tmp 2) (.tmp 78), 0, "law.go:55", #[⟨0, .data⟩, ⟨0, .phase⟩, ⟨1, .textOnly .lateStores⟩, ⟨2, .textOnly .lateStores⟩], none⟩) rfl (by kernel_rfl) (fun K hK => ?_)
          refine step_store_row (by rfl) 48 (.tmp 2) (.tmp 78) (by rfl) w.heap.size (cellsOf q0 q1 q2 q3 q4 q5 q6 q7 r) (by rfl) (by rfl) 48 zeroS C0.out info_st (by rfl) (cells_one _ _ _ _ _ _ _ _ _) ?_
          refine hK _ _ ?_; clear hK K; try simp only [Act.put, List.setIfInBounds_toArray, List.set_cons_zero, List.set_cons_succ]
          refine any_one (i := 4) (o := ⟨none, .store 46 (.tmp 3) (.tmp 79), 0, "law.go:55", #[⟨1, .data⟩, ⟨3, .chain⟩, ⟨0, .phase⟩, ⟨1, .phase⟩, ⟨2, .textOnly .lateStores⟩, ⟨3, .phase⟩], none⟩) rfl (by kernel_rfl) (fun K hK => ?_)
          refine step_store_row (by rfl) 46 (.tmp 3) (.tmp 79) (by rfl) (w.heap.size + 1) (wantCells [(q0 : Int), q1, q2, q3, q4, q5, q6, q7]) (by rfl) (by rfl) 46 zeroW (D0.out.row (by omega) _) info_w (by rfl) (want_one _ _ _ _ _ _ _ _) ?_
          refine hK _ _ ?_; clear hK K; try simp only [Act.put, List.setIfInBounds_toArray, List.set_cons_zero, List.set_cons_succ]
          refine any_one (i := 5) (o := ⟨some 4, .assign (.tmp 80), 24, "law.go:55", #[⟨2, .data⟩, ⟨4, .chain⟩, ⟨0, .phase⟩, ⟨1, .phase⟩, ⟨2, .phase⟩, ⟨3, .phase⟩, ⟨4, .phase⟩], none⟩) rfl (by kernel_rfl) (fun K hK => ?_)
          refine ⟨?_⟩
          go_simp
          refine hK _ _ ?_; clear hK K; try simp only [Act.put, List.setIfInBounds_toArray, List.set_cons_zero, List.set_cons_succ]
          refine wpAny_done (by kernel_rfl) ?_ _
          go_wp2_with fail
          exact ⟨rfl, _, results_of (fn := Tryd.f33) (by rfl) _ _ w.heap.size (w.heap.size + 1) 48 46 _ _ _ _ _ _ (.float .f64 r) (by rfl) (Blk.row (setRow_heap _ _ _ (cellsOf q0 q1 q2 q3 q4 q5 q6 q7 r) _ _ C0.out) (by omega) (wantCells [(q0 : Int), q1, q2, q3, q4, q5, q6, q7])) (by rfl) (setRow_heap _ _ _ (wantCells [(q0 : Int), q1, q2, q3, q4, q5, q6, q7]) _ _ (D0.out.row (by omega) _)) Tryd.underlying48 rfl info_st Tryd.underlying46 rfl info_w (by rfl), q0, q1, q2, q3, q4, q5, q6, q7, r, hq.out, hO.out.2.1, rfl, below_setRow (below_setRow E0.out (Nat.le_refl _) _) (by omega) _⟩
        · refine step_store_row (by rfl) 48 (.tmp 2) (.tmp 78) (by rfl) w.heap.size (cellsOf q0 q1 q2 q3 q4 q5 q6 q7 r) (by rfl) (by rfl) 48 zeroS C0.out info_st (by rfl) (cells_one _ _ _ _ _ _ _ _ _) ?_
          refine hK _ _ ?_; clear hK K; try simp only [Act.put, List.setIfInBounds_toArray, List.set_cons_zero, List.set_cons_succ]
          refine any_one (i := 1) (o := ⟨some 79, .load 46 (.tmp 6), 46, "law.go:55", #[⟨3, .gcOnly .lateStores⟩], none⟩) rfl (by kernel_rfl) (fun K hK => ?_)
          refine step_load_row (by rfl) 46 (.tmp 6) (by rfl) (w.heap.size + 1 + 1 + 1) (by rfl) 46 (wantCells [(q0 : Int), q1, q2, q3, q4, q5, q6, q7]) _ _ (B0.out.row (by omega) _) Tryd.underlying46 rfl info_w ?_
          refine hK _ _ ?_; clear hK K; try simp only [Act.put, List.setIfInBounds_toArray, List.set_cons_zero, List.set_cons_succ]
          refine any_one (i := 4) (o := ⟨none, .store 46 (.tmp 3) (.tmp 79), 0, "law.go:55", #[⟨1, .data⟩, ⟨3, .chain⟩, ⟨0, .phase⟩, ⟨1, .phase⟩, ⟨2, .textOnly .lateStores⟩, ⟨3, .phase⟩], none⟩) rfl (by kernel_rfl) (fun K hK => ?_)
          refine step_store_row (by rfl) 46 (.tmp 3) (.tmp 79) (by rfl) (w.heap.size + 1) (wantCells [(q0 : Int), q1, q2, q3, q4, q5, q6, q7]) (by rfl) (by rfl) 46 zeroW (D0.out.row (by omega) _) info_w (by rfl) (want_one _ _ _ _ _ _ _ _) ?_
          refine hK _ _ ?_; clear hK K; try simp only [Act.put, List.setIfInBounds_toArray, List.set_cons_zero, List.set_cons_succ]
          refine any_one (i := 5) (o := ⟨some 4, .assign (.tmp 80), 24, "law.go:55", #[⟨2, .data⟩, ⟨4, .chain⟩, ⟨0, .phase⟩, ⟨1, .phase⟩, ⟨2, .phase⟩, ⟨3, .phase⟩, ⟨4, .phase⟩], none⟩) rfl (by kernel_rfl) (fun K hK => ?_)
          refine ⟨?_⟩
          go_simp
          refine hK _ _ ?_; clear hK K; try simp only [Act.put, List.setIfInBounds_toArray, List.set_cons_zero, List.set_cons_succ]
          refine wpAny_done (by kernel_rfl) ?_ _
          go_wp2_with fail
          exact ⟨rfl, _, results_of (fn := Tryd.f33) (by rfl) _ _ w.heap.size (w.heap.size + 1) 48 46 _ _ _ _ _ _ (.float .f64 r) (by rfl) (Blk.row (setRow_heap _ _ _ (cellsOf q0 q1 q2 q3 q4 q5 q6 q7 r) _ _ C0.out) (by omega) (wantCells [(q0 : Int), q1, q2, q3, q4, q5, q6, q7])) (by rfl) (setRow_heap _ _ _ (wantCells [(q0 : Int), q1, q2, q3, q4, q5, q6, q7]) _ _ (D0.out.row (by omega) _)) Tryd.underlying48 rfl info_st Tryd.underlying46 rfl info_w (by rfl), q0, q1, q2, q3, q4, q5, q6, q7, r, hq.out, hO.out.2.1, rfl, below_setRow (below_setRow E0.out (Nat.le_refl _) _) (by omega) _⟩
      · refine step_load_row (by rfl) 46 (.tmp 6) (by rfl) (w.heap.size + 1 + 1 + 1) (by rfl) 46 (wantCells [(q0 : Int), q1, q2, q3, q4, q5, q6, q7]) _ _ B0.out Tryd.underlying46 rfl info_w ?_
        refine hK _ _ ?_; clear hK K; try simp only [Act.put, List.setIfInBounds_toArray, List.set_cons_zero, List.set_cons_succ]
        refine any_one (i := 0) (o := ⟨some 78, .load 48 (.tmp 5), 48, "law.go:55", #[], none⟩) rfl (by kernel_rfl) (fun K hK => ?_)
        refine step_load_row (by rfl) 48 (.tmp 5) (by rfl) (w.heap.size + 1 + 1) (by rfl) 48 (cellsOf q0 q1 q2 q3 q4 q5 q6 q7 r) _ _ A0.out Tryd.underlying48 rfl info_st ?_
        refine hK _ _ ?_; clear hK K; try simp only [Act.put, List.setIfInBounds_toArray, List.set_cons_zero, List.set_cons_succ]
        refine any_one (i := 3) (o := ⟨none, .store 48 (.tmp 2) (.tmp 78), 0, "law.go:55", #[⟨0, .data⟩, ⟨0, .phase⟩, ⟨1, .textOnly .lateStores⟩, ⟨2, .textOnly .lateStores⟩], none⟩) rfl (by kernel_rfl) (fun K hK => ?_)
        refine step_store_row (by rfl) 48 (.tmp 2) (.tmp 78) (by rfl) w.heap.size (cellsOf q0 q1 q2 q3 q4 q5 q6 q7 r) (by rfl) (by rfl) 48 zeroS C0.out info_st (by rfl) (cells_one _ _ _ _ _ _ _ _ _) ?_
        refine hK _ _ ?_; clear hK K; try simp only [Act.put, List.setIfInBounds_toArray, List.set_cons_zero, List.set_cons_succ]
        refine any_one (i := 4) (o := ⟨none, .store 46 (.tmp 3) (.tmp 79), 0, "law.go:55", #[⟨1, .data⟩, ⟨3, .chain⟩, ⟨0, .phase⟩, ⟨1, .phase⟩, ⟨2, .textOnly .lateStores⟩, ⟨3, .phase⟩], none⟩) rfl (by kernel_rfl) (fun K hK => ?_)
        refine step_store_row (by rfl) 46 (.tmp 3) (.tmp 79) (by rfl) (w.heap.size + 1) (wantCells [(q0 : Int), q1, q2, q3, q4, q5, q6, q7]) (by rfl) (by rfl) 46 zeroW (D0.out.row (by omega) _) info_w (by rfl) (want_one _ _ _ _ _ _ _ _) ?_
        refine hK _ _ ?_; clear hK K; try simp only [Act.put, List.setIfInBounds_toArray, List.set_cons_zero, List.set_cons_succ]
        refine any_one (i := 5) (o := ⟨some 4, .assign (.tmp 80), 24, "law.go:55", #[⟨2, .data⟩, ⟨4, .chain⟩, ⟨0, .phase⟩, ⟨1, .phase⟩, ⟨2, .phase⟩, ⟨3, .phase⟩, ⟨4, .phase⟩], none⟩) rfl (by kernel_rfl) (fun K hK => ?_)
        refine ⟨?_⟩
        go_simp
        refine hK _ _ ?_; clear hK K; try simp only [Act.put, List.setIfInBounds_toArray, List.set_cons_zero, List.set_cons_succ]
        refine wpAny_done (by kernel_rfl) ?_ _
        go_wp2_with fail
        exact ⟨rfl, _, results_of (fn := Tryd.f33) (by rfl) _ _ w.heap.size (w.heap.size + 1) 48 46 _ _ _ _ _ _ (.float .f64 r) (by rfl) (Blk.row (setRow_heap _ _ _ (cellsOf q0 q1 q2 q3 q4 q5 q6 q7 r) _ _ C0.out) (by omega) (wantCells [(q0 : Int), q1, q2, q3, q4, q5, q6, q7])) (by rfl) (setRow_heap _ _ _ (wantCells [(q0 : Int), q1, q2, q3, q4, q5, q6, q7]) _ _ (D0.out.row (by omega) _)) Tryd.underlying48 rfl info_st Tryd.underlying46 rfl info_w (by rfl), q0, q1, q2, q3, q4, q5, q6, q7, r, hq.out, hO.out.2.1, rfl, below_setRow (below_setRow E0.out (Nat.le_refl _) _) (by omega) _⟩
end Go.Proofs.YtdgphhpeebieaaaDoor
