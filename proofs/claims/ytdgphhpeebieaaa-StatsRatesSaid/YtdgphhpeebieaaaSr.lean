/-
  WALK: StatsRates: of so many hits among so many questions the rate is the one by the other.
-/
import Derived.Test.YtdgphhpeebieaaaSa
import Derived.Deep.DeepCutAuto
import Derived.Deep.LoopGhost
namespace Go.Proofs.Ytdgphhpeebieaaa
open Go.RowKit FP
set_option linter.unusedVariables false

theorem clamp40 (x : Int) : ∃ h : Nat, h ≤ 40 ∧ max 0 (min x 40) = (h : Int) := ⟨(max 0 (min x 40)).toNat, by omega, by omega⟩
theorem sumU_one {k : Nat} (h : k ≤ 80) : sumU k 1 = (k + 1 : Nat) := by unfold sumU; rw [if_neg (by omega)]; omega
theorem ct_small {k : Nat} (h : k ≤ 100) : Hid (Ct k) := by show Ct _; unfold Ct; omega

theorem statsRates_walk (a0 : Int) (a1 : Int) (by_ : Nat) (hby : Hid (Wd by_)) (w : World) :
    Calls Try.prog 3 #[.int .i64 a0, .int .i64 a1, .int .u64 by_] w fun e w' => e = .returned (.bool true) ∧ Below w.heap.size w w' := by
  go_enter Try.func3, Try.ntmps3
  go_wp2_with fail
  refine (sawake_any _).mono ?_
  rintro e wa ⟨rfl, hwa⟩
  go_upto_region 3 with fail
  go_cut [0, 1] (fun s0 s1 wx => wx = wa ∧ ∃ h m : Nat, h ≤ 40 ∧ m ≤ 40 ∧ s0 = .int .i64 h ∧ s1 = .int .i64 m)
  case first =>
    obtain ⟨hq, hh, eh⟩ := clamp40 a0
    obtain ⟨mq, hm, em⟩ := clamp40 a1
    have He := Lib.hid eh
    have Hm := Lib.hid em
    clear eh em
    go_wp2_with fail
    all_goals
      go_meet
      refine ⟨rfl, hq, mq, hh, hm, congrArg (Value.int .i64) ?_, congrArg (Value.int .i64) ?_⟩
      · rw [← He.out]; omega
      · rw [← Hm.out]; omega
  case rest =>
    obtain ⟨rfl, h, m, hh, hm, rfl, rfl⟩ := hcut
    obtain ⟨g, hg⟩ : ∃ g, g = wc.heap.size := ⟨_, rfl⟩
    have hge : w.heap.size ≤ g := by rw [hg]; exact hwa.size
    have Hg := Lib.hid hg
    clear hg
    go_wp2_with fail
    rw [← Hg.out]
    go_loopw [18] (fun i wr => ∃ k : Nat, k ≤ m ∧ i = .int .i64 k ∧ Blk wr g 27 (cellsOf k 0 0 0 0 0 0 0 0) ∧ Below w.heap.size w wr) (fun i _ => m - (intOf i).toNat)
    case atStart =>
      refine ⟨0, Nat.zero_le _, rfl, ?_, hwa.alloc hwa.size _⟩
      rw [Hg.out]; exact Blk.new _ _ _
    case round =>
      obtain ⟨k, hk, rfl, hB, hb⟩ := hrel
      have HB := Lib.hid hB
      have Hb := Lib.hid hb
      clear hB hb hwa
      by_cases hlt : k < m
      · go_wp2_with fail
        refine (asked_miss g _ _ _ _ _ _ _ _ _ _ _ HB (ct_small (by omega)) zero_wd hby).mono ?_
        rintro e w2 ⟨rfl, hb2, hg2⟩
        rw [blendW_same, sumU_one (by omega)] at hb2
        have B2 := Lib.hid hb2
        have G2 := Lib.hid hg2
        clear hb2 hg2
        go_wp2_with fail
        go_roundw
        case rel => exact ⟨k + 1, by omega, by go_num, B2.out, below_gb Hb.out G2.out Hb.out.size hge⟩
        case measure => simp [intOf]; omega
      · obtain rfl : k = m := by omega
        obtain ⟨c0, c1, c2, c3, c4, c5, c6, c7, c8⟩ := blk9 HB.out
        have hz := HB.out.lt
        go_wp2_with fail
        refine (going_any _ _ _ _ _ _ _ _ _ _).mono ?_
        rintro e w2 ⟨rfl, hw2⟩
        have B2 := Lib.hid (HB.out.below hw2 hz)
        have b2 := Lib.hid (Hb.out.trans (hw2.mono Hb.out.size))
        clear c0 c1 c2 c3 c4 c5 c6 c7 c8 hz HB Hb hw2
        go_wp2_with fail
        refine (order_any 0 0 zero_wd zero_wd _).mono ?_
        rintro e w3 ⟨rfl, rfl⟩
        rw [show orderI 0 0 = 0 from rfl]
        go_wp2_with fail
        go_loopw [29] (fun i wr => ∃ j : Nat, j ≤ h ∧ i = .int .i64 j ∧ (∃ r, r ≤ one ∧ Blk wr g 27 (cellsOf (k + j : Nat) j 0 0 0 0 0 0 r)) ∧ Below w.heap.size w wr) (fun i _ => h - (intOf i).toNat)
        case atStart => exact ⟨0, Nat.zero_le _, rfl, ⟨0, Nat.zero_le _, B2.out⟩, b2.out⟩
        case round =>
          obtain ⟨j, hj, rfl, ⟨r, hr, hB⟩, hb⟩ := hrel
          have HB := Lib.hid hB
          have Hb := Lib.hid hb
          have Hr := Lib.hid hr
          clear hB hb hr b2 B2
          by_cases hlt : j < h
          · go_wp2_with fail
            refine (asked_hit g _ _ _ _ _ _ _ _ _ _ _ HB (ct_small (by omega)) (ct_small (by omega)) (le_one_wd Hr.out) hby).mono ?_
            rintro e w2 ⟨rfl, hb2, hg2⟩
            rw [sumU_one (by omega), sumU_one (by omega)] at hb2
            have B2 := Lib.hid hb2
            have G2 := Lib.hid hg2
            clear hb2 hg2
            go_wp2_with fail
            go_roundw
            case rel => exact ⟨j + 1, by omega, by go_num, ⟨_, blendW_le _ _ _, B2.out⟩, below_gb Hb.out G2.out Hb.out.size hge⟩
            case measure => simp [intOf]; omega
          · obtain rfl : j = h := by omega
            go_wp2_with fail
            rw [show ((j : Int) + (k : Int)) = ((j + k : Nat) : Int) from by omega]
            refine (ratio_any j (j + k) (by omega) (by omega) _).mono ?_
            rintro e w2 ⟨q, hq, rfl, n, rfl⟩
            have Hq := Lib.hid hq
            clear hq
            obtain ⟨c0, c1, c2, c3, c4, c5, c6, c7, c8⟩ := blk9 (HB.out.drewN n)
            have hz := HB.out.lt
            have hz' : g < (wr.drewN n).heap.size := hz
            go_wp2_with fail
            rw [show ((k : Int) + (j : Int)) = ((k + j : Nat) : Int) from by omega]
            refine (rate_any (k + j) j 0 0 0 0 0 0 r (by omega) (by omega) _).mono ?_
            rintro e w3 ⟨q', hq', rfl, hw3⟩
            have ho : orderI q' q = 0 := by
              have h1 := Hq.out
              rw [Nat.add_comm] at h1
              exact ratio_same hq' h1
            have hwq : Hid (Wd q) := Hq.out.1
            have hwq' : Hid (Wd q') := hq'.1
            have B3 := Lib.hid ((HB.out.drewN n).below hw3 hz')
            have b3 := Lib.hid ((below_drewN Hb.out n).trans (hw3.mono Hb.out.size))
            have hc := order_any q' q hwq' hwq
            rw [ho] at hc
            have Hc := fun w => Lib.hid (hc w)
            clear c0 c1 c2 c3 c4 c5 c6 c7 c8 hz hz' hq' Hq ho hw3 hc
            obtain ⟨c0, c1, c2, c3, c4, c5, c6, c7, c8⟩ := blk9 B3.out
            have hz := B3.out.lt
            go_wp2_with fail
            refine (Hc _).out.mono ?_
            rintro e w4 ⟨rfl, rfl⟩
            clear Hc
            go_wp2_with fail
            refine (count_any 1 (by omega) j _ (by exact rfl) _).mono ?_
            rintro e w4 ⟨rfl, hw4⟩
            have B4 := Lib.hid (B3.out.below hw4 hz)
            have b4 := Lib.hid (b3.out.trans (hw4.mono b3.out.size))
            clear c0 c1 c2 c3 c4 c5 c6 c7 c8 hz hw4 B3 b3
            obtain ⟨c0, c1, c2, c3, c4, c5, c6, c7, c8⟩ := blk9 B4.out
            have hz := B4.out.lt
            go_wp2_with fail
            refine (count_any 0 (by omega) ((k : Int) + (j : Int)) _ (by exact rfl) _).mono ?_
            rintro e w5 ⟨rfl, hw5⟩
            have B5 := Lib.hid (B4.out.below hw5 hz)
            have b5 := Lib.hid (b4.out.trans (hw5.mono b4.out.size))
            clear c0 c1 c2 c3 c4 c5 c6 c7 c8 hz hw5 B4 b4
            obtain ⟨c0, c1, c2, c3, c4, c5, c6, c7, c8⟩ := blk9 B5.out
            have hz := B5.out.lt
            have hq : ((k : Int) + (j : Int) == (j : Int) + (k : Int)) = true := beq_iff_eq.2 (by omega)
            go_wp2_with fail
            refine (going_any _ _ _ _ _ _ _ _ _ _).mono ?_
            rintro e w6 ⟨rfl, hw6⟩
            have b6 := Lib.hid (b5.out.trans (hw6.mono b5.out.size))
            clear c0 c1 c2 c3 c4 c5 c6 c7 c8 hz hw6 B5 b5 hq
            have ho := orderI_one Hr.out
            go_wp2_with fail
            refine (order_any r 4607182418800017408 (le_one_wd Hr.out) one_wd _).mono ?_
            rintro e w7 ⟨rfl, rfl⟩
            have ho' : orderI r 4607182418800017408 ≤ 0 := ho
            go_wp2_with fail
            go_ret
            exact ⟨rfl, b6.out⟩
end Go.Proofs.Ytdgphhpeebieaaa
