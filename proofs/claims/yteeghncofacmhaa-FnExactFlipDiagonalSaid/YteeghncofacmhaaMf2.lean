/- The proof of FnExactFlipDiagonal, part 3 of 7; no condition: the statement as it is given. Merged by pack.py out of this session's texts. -/
import Derived.Test.YteeghncofacmhaaMf0
import Derived.Test.YteeghncofacmhaaMf1
section
namespace Go.Proofs.Yteeghncofacmhaa.Q
open Go.RowKit Go.Proofs.YteeghncofacmhaaW.PrintWords Go.Proofs.YteeghncofacmhaaW.PrintLast Go.Proofs.YteeghncofacmhaaW.PrintMore
attribute [local go_sem] max2_int min2_int max_two min_two max_three min_three max_four min_four   -- for this text's walks alone
set_option linter.unusedVariables false
set_option linter.unusedSimpArgs false
/-! ### spec_cdGood: function 67 -/
mutual
def spec_cdGood.j0 : Nat → Int → List (S64) → Bool → Option (Bool)
  | 0, _, _, _ => none
  | k + 1, x0, x1, x14 => if x14 = true then (some false) else (spec_cdGood.l0 k x0 x1 x1 (x1.length : Int) 0)
def spec_cdGood.l0 : Nat → Int → List (S64) → List (S64) → Int → Int → Option (Bool)
  | 0, _, _, _, _, _ => none
  | k + 1, x0, x1, x15, x16, x17 => if x17 < x16 then (if 0 ≤ x17 then (if x17 < (x15.length : Int) then ((spec_srIs.f x0 ((rd_T64 x15 x17).f0) ((rd_T64 x15 x17).f1)).bind fun t104 => (if t104 = true then (if x17 > 0 then (if 0 ≤ (wrap64 (x17 - 1)) then (if (wrap64 (x17 - 1)) < (x1.length : Int) then ((spec_srLess.f ((rd_T64 x1 (wrap64 (x17 - 1))).f0) ((rd_T64 x1 (wrap64 (x17 - 1))).f1) ((rd_T64 x15 x17).f0) ((rd_T64 x15 x17).f1)).bind fun t106 => (if t106 = true then (spec_cdGood.l0 k x0 x1 x15 x16 (wrap64 (x17 + 1))) else (some false))) else (none)) else (none)) else (spec_cdGood.l0 k x0 x1 x15 x16 (wrap64 (x17 + 1)))) else (some false))) else (none)) else (none)) else (some true)
end
def spec_cdGood.f (k : Nat) (a0 : Int) (l1 : List (S64)) : Option (Bool) := (spec_srPoints.f a0).bind fun t101 => (if t101 = true then (spec_cdGood.j0 k a0 l1 (decide ((l1.length : Int) > 40))) else (spec_cdGood.j0 k a0 l1 true))
def spec_cdGood.T6 : Bool × List (List Nat × List Nat) := (true, [([], []), ([], []), ([0, 1], [0, 1]), ([2], [2]), ([3, 2], [3]), ([4], [4]), ([5, 4], [4, 5]), ([6, 4, 4], [4, 6]), ([7], [7]), ([7], [7]), ([9, 7], [7, 9]), ([8, 10, 7], [7, 8, 10]), ([11, 7], [7, 11]), ([7], [7]), ([12, 13, 7, 7], [7, 12, 13]), ([14, 7], [7, 14]), ([7, 15, 4], [4, 7, 15]), ([4, 16], [4, 16])])
def spec_cdGood.B6 : List Nat := [0, 0, 3, 7, 15, 31, 63, 127, 255, 255, 767, 2047, 4095, 255, 16383, 32767, 65535, 131071]
theorem spec_cdGood.tab6 : rtab .any (opsOf Try.f67 6) = spec_cdGood.T6 := by kernel_rfl
theorem spec_cdGood.bits6 : waitsOk spec_cdGood.T6.2 spec_cdGood.B6 = true := by kernel_rfl
set_option maxHeartbeats 8000000 in
set_option maxRecDepth 100000 in
theorem spec_cdGood.calls (k : Nat) (a0 : Int) (A1 : Option Addr) (c1 : Nat) (l1 : List (S64)) (r : Bool) (w : World) (hr1 : Kd.C k64 w A1 l1.length l1) (hc1 : l1.length ≤ c1) (h : spec_cdGood.f k a0 l1 = some r) :
    Calls Try.prog 67 #[.int .i64 a0, .slice A1 l1.length c1] w fun e w' => e = .returned (.bool r) ∧ Below w.heap.size w w' := by
  have hu64 := Try.underlying64
  have HR1 := Aside0.mk hr1
  have HC1 := Aside0.mk hc1
  clear hr1 hc1
  have HB := Aside0.mk (Below.refl w.heap.size w)
  have H : ((spec_srPoints.f a0).bind fun t101 => (if t101 = true then (spec_cdGood.j0 k a0 l1 (decide ((l1.length : Int) > 40))) else (spec_cdGood.j0 k a0 l1 true))) = some r := h
  clear h
  have HC3 := Aside0.mk H
  clear H
  go_enter Try.func67, Try.ntmps67
  go_upto_region 1 with (fail)
  go_cut [14] (fun v14 wc => ∃ (kq : Nat) (x14_2 : Bool), v14 = .bool x14_2 ∧ Aside0 (spec_cdGood.j0 kq a0 l1 x14_2 = some r) ∧ Aside0 (kq ≤ k) ∧ Aside0 (Below w.heap.size w wc))
  case first =>
    have H := HC3.out
    clear HC3
    replace H := Option.bind_eq_some_iff.mp H
    obtain ⟨t101, A40, H⟩ := H
    replace H : (if t101 = true then (spec_cdGood.j0 k a0 l1 (decide ((l1.length : Int) > 40))) else (spec_cdGood.j0 k a0 l1 true)) = some r := H
    have A4 := Aside0.mk A40
    clear A40
    by_cases c5 : t101 = true
    · subst c5
      have H1 : (spec_cdGood.j0 k a0 l1 (decide ((l1.length : Int) > 40))) = some r := by rw [if_pos rfl] at H; exact H
      clear H
      have H := H1
      clear H1
      have H' := Aside0.mk H
      clear H
      go_wp2_with (first | ((with_reducible refine gate_callee (f := 110) rfl ?_); refine goesL_ (some 8) rfl rfl Try.func110 (by kernel_rfl) rfl #[.int .i64 a0] rfl (by (try simp only [List.map_toArray, List.map_cons, List.map_nil]); first | done | rfl | (simp only [List.length_drop, List.length_take]; rfl)) ?_; (with_reducible refine (spec_srPoints.calls a0 true _ A4.out).mono ?_); rintro e w' ⟨rfl, ⟨nd, rfl⟩⟩; refine ⟨_, rfl, ?_⟩))
      go_meet
      case rel => exact ⟨_, (decide ((l1.length : Int) > 40)), (by first | rfl | (simp; done) | (simp [*]; done)), H', ⟨by first | omega | exact Nat.le_refl _⟩, ⟨by repeat (first | (with_reducible first | exact HB.out | apply below_alloc | apply pw_below_drewN | apply below_drew1) | exact HB.out)⟩⟩
    · replace c5 := Bool.eq_false_iff.mpr c5
      subst c5
      have H1 : (spec_cdGood.j0 k a0 l1 true) = some r := by rw [if_neg (show ¬ (false = true) by decide)] at H; exact H
      clear H
      have H := H1
      clear H1
      have H' := Aside0.mk H
      clear H
      go_wp2_with (first | ((with_reducible refine gate_callee (f := 110) rfl ?_); refine goesL_ (some 8) rfl rfl Try.func110 (by kernel_rfl) rfl #[.int .i64 a0] rfl (by (try simp only [List.map_toArray, List.map_cons, List.map_nil]); first | done | rfl | (simp only [List.length_drop, List.length_take]; rfl)) ?_; (with_reducible refine (spec_srPoints.calls a0 false _ A4.out).mono ?_); rintro e w' ⟨rfl, ⟨nd, rfl⟩⟩; refine ⟨_, rfl, ?_⟩))
      go_meet
      case rel => exact ⟨_, (true), (by first | rfl | (simp; done) | (simp [*]; done)), H', ⟨by first | omega | exact Nat.le_refl _⟩, ⟨by repeat (first | (with_reducible first | exact HB.out | apply below_alloc | apply pw_below_drewN | apply below_drew1) | exact HB.out)⟩⟩
  case rest =>
    clear HC3
    try clear c1
    try clear p2
    try clear c5
    obtain ⟨kq, x14_2, rfl, HA, HJ2, HB⟩ := hcut
    cases kq with
    | zero => exact absurd HA.out (by simp [spec_cdGood.j0])
    | succ kj2 =>
      have H := HA.out
      clear HA
      simp only [spec_cdGood.j0] at H
      by_cases c6 : x14_2 = true
      · subst c6
        have H1 : (some false) = some r := by rw [if_pos rfl] at H; exact H
        clear H
        have H := H1
        clear H1
        obtain rfl := Option.some.inj H
        go_wp2
        go_ret
        exact ⟨by first | rfl | (simp [errW_none, errW_some] <;> rfl) | (simp [*, errW_none, errW_some] <;> rfl), by repeat (first | (with_reducible first | exact HB.out | apply below_alloc | apply pw_below_drewN | apply below_drew1) | exact HB.out)⟩
      · replace c6 := Bool.eq_false_iff.mpr c6
        subst c6
        have H1 : (spec_cdGood.l0 kj2 a0 l1 l1 (l1.length : Int) 0) = some r := by rw [if_neg (show ¬ (false = true) by decide)] at H; exact H
        clear H
        have H := H1
        clear H1
        have H' := Aside0.mk H
        clear H
        go_wp2
        go_loopg [17] kj2 (fun kq v17 w' => ∃ (x17_2 : Int), v17 = .int .i64 x17_2 ∧ Aside0 (spec_cdGood.l0 kq a0 l1 l1 (l1.length : Int) x17_2 = some r) ∧ Aside0 (kq ≤ kj2) ∧ Aside0 (Below w.heap.size w w'))
        case atStart => exact ⟨(0), (by first | rfl | (simp; done) | (simp [*]; done)), H', ⟨Nat.le_refl _⟩, ⟨by repeat (first | (with_reducible first | exact HB.out | apply below_alloc | apply pw_below_drewN | apply below_drew1) | exact HB.out)⟩⟩
        case round =>
          clear H'
          try clear c1
          try clear p2
          try clear c5
          try clear c6
          try clear p2
          obtain ⟨x17_2, rfl, HA, HK2, HB⟩ := hrel
          cases gk with
          | zero => exact absurd HA.out (by simp [spec_cdGood.l0])
          | succ k2 =>
            have H := HA.out
            clear HA
            simp only [spec_cdGood.l0] at H
            by_cases c7 : x17_2 < (l1.length : Int)
            · rw [if_pos c7] at H
              have c7b0 : decide (x17_2 < (l1.length : Int)) = true := decide_eq_true c7
              clear c7
              by_cases c8 : 0 ≤ x17_2
              · rw [if_pos c8] at H
                have c8b0 : decide (0 ≤ x17_2) = true := decide_eq_true c8
                clear c8
                by_cases c9 : x17_2 < (l1.length : Int)
                · rw [if_pos c9] at H
                  have c9b0 : decide (x17_2 < (l1.length : Int)) = true := decide_eq_true c9
                  clear c9
                  replace H := Option.bind_eq_some_iff.mp H
                  obtain ⟨t104, A100, H⟩ := H
                  replace H : (if t104 = true then (if x17_2 > 0 then (if 0 ≤ (wrap64 (x17_2 - 1)) then (if (wrap64 (x17_2 - 1)) < (l1.length : Int) then ((spec_srLess.f ((rd_T64 l1 (wrap64 (x17_2 - 1))).f0) ((rd_T64 l1 (wrap64 (x17_2 - 1))).f1) ((rd_T64 l1 x17_2).f0) ((rd_T64 l1 x17_2).f1)).bind fun t106 => (if t106 = true then (spec_cdGood.l0 k2 a0 l1 l1 (l1.length : Int) (wrap64 (x17_2 + 1))) else (some false))) else (none)) else (none)) else (spec_cdGood.l0 k2 a0 l1 l1 (l1.length : Int) (wrap64 (x17_2 + 1)))) else (some false)) = some r := H
                  have A10 := Aside0.mk A100
                  clear A100
                  by_cases c11 : t104 = true
                  · subst c11
                    have H1 : (if x17_2 > 0 then (if 0 ≤ (wrap64 (x17_2 - 1)) then (if (wrap64 (x17_2 - 1)) < (l1.length : Int) then ((spec_srLess.f ((rd_T64 l1 (wrap64 (x17_2 - 1))).f0) ((rd_T64 l1 (wrap64 (x17_2 - 1))).f1) ((rd_T64 l1 x17_2).f0) ((rd_T64 l1 x17_2).f1)).bind fun t106 => (if t106 = true then (spec_cdGood.l0 k2 a0 l1 l1 (l1.length : Int) (wrap64 (x17_2 + 1))) else (some false))) else (none)) else (none)) else (spec_cdGood.l0 k2 a0 l1 l1 (l1.length : Int) (wrap64 (x17_2 + 1)))) = some r := by rw [if_pos rfl] at H; exact H
                    clear H
                    have H := H1
                    clear H1
                    by_cases c12 : x17_2 > 0
                    · rw [if_pos c12] at H
                      have c12b0 : decide (0 < x17_2) = true := decide_eq_true c12
                      clear c12
                      obtain ⟨ji13, hji13⟩ : ∃ j_ : Int, (wrap64 (x17_2 - 1)) = j_ := ⟨_, rfl⟩
                      replace H : (if 0 ≤ (ji13) then (if (ji13) < (l1.length : Int) then ((spec_srLess.f ((rd_T64 l1 (ji13)).f0) ((rd_T64 l1 (ji13)).f1) ((rd_T64 l1 x17_2).f0) ((rd_T64 l1 x17_2).f1)).bind fun t106 => (if t106 = true then (spec_cdGood.l0 k2 a0 l1 l1 (l1.length : Int) (wrap64 (x17_2 + 1))) else (some false))) else (none)) else (none)) = some r := by first | (rw [hji13] at H; exact H) | (simp only [hji13] at H ⊢; exact H)
                      (try rw [hji13] at A10)
                      have hji13w : (IntKind.i64.wrap (x17_2 - 1)) = ji13 := (i64_w _).trans hji13
                      by_cases c14 : 0 ≤ (ji13)
                      · rw [if_pos c14] at H
                        have c14b0 : decide (0 ≤ (ji13)) = true := decide_eq_true c14
                        clear c14
                        by_cases c15 : (ji13) < (l1.length : Int)
                        · rw [if_pos c15] at H
                          have c15b0 : decide ((ji13) < (l1.length : Int)) = true := decide_eq_true c15
                          clear c15
                          replace H := Option.bind_eq_some_iff.mp H
                          obtain ⟨t106, A160, H⟩ := H
                          replace H : (if t106 = true then (spec_cdGood.l0 k2 a0 l1 l1 (l1.length : Int) (wrap64 (x17_2 + 1))) else (some false)) = some r := H
                          have A16 := Aside0.mk A160
                          clear A160
                          by_cases c17 : t106 = true
                          · subst c17
                            have H1 : (spec_cdGood.l0 k2 a0 l1 l1 (l1.length : Int) (wrap64 (x17_2 + 1))) = some r := by rw [if_pos rfl] at H; exact H
                            clear H
                            have H := H1
                            clear H1
                            have H' := Aside0.mk H
                            clear H
                            have p102 : 0 ≤ (x17_2 : Int) := of_decide_eq_true (by first | (with_reducible assumption) | assumption)
                            have q102 : x17_2 < (l1.length : Int) := of_decide_eq_true (by first | (with_reducible assumption) | assumption)
                            obtain ⟨ad102, e102, hx102_0, hx102_1⟩ := at_T64 HR1.out x17_2 p102 q102
                            cases e102
                            try replace hx102_0 := (HB.out.cell (World.block_lt_of_cell? w _ hx102_0)).trans hx102_0
                            try replace hx102_1 := (HB.out.cell (World.block_lt_of_cell? w _ hx102_1)).trans hx102_1
                            replace p102 := eq_true p102
                            replace q102 := eq_true q102
                            try go_wp2_with (first | ((with_reducible refine gate_dst (N := 6) rfl ?_); (try (refine gate_guard (by rfl) ?_; dsimp only)); refine box_event ?hg (N := 6) ?hd (cs := #[.int .i64 0, .int .i64 0]) (t := 64) ?hr ?_; (case hd => rfl); (case hg => rfl); (case hr => first | (go_simp; done) | (go_simp; rfl)); intro gb103 hg w18 hbox hb; have n0_ := Aside0.mk (below_step (by repeat (first | (with_reducible first | exact HB.out | apply below_alloc | apply pw_below_drewN | apply below_drew1) | exact HB.out)) hb); have n1_ := Aside0.mk (hbox); have n2_ := Aside0.mk ((by rw [hg]; exact (below_size (by repeat (first | (with_reducible first | exact HB.out | apply below_alloc | apply pw_below_drewN | apply below_drew1) | exact HB.out))) : w.heap.size ≤ gb103)); have n3_ := Aside0.mk ((by rw [hg]; exact (below_size (by repeat (first | (with_reducible first | exact HB.out | apply below_alloc | apply pw_below_drewN | apply below_drew1) | exact HB.out))) : w.heap.size ≤ gb103)); clear HB; have HB := n0_; have BK103 := n1_; have GW103 := n2_; have GE103 := n3_; clear n0_ n1_ n2_ n3_; clear hb hbox hg; have hcz19_0 : w18.cell? ⟨gb103, 0, none⟩ = some (.int .i64 0) := (blk_cell BK103.out 0).trans rfl; have hcz19_1 : w18.cell? ⟨gb103, 1, none⟩ = some (.int .i64 0) := (blk_cell BK103.out 1).trans rfl; have hfz19_0 := blk_frozen BK103.out 0; have hfz19_1 := blk_frozen BK103.out 1))
                            have n0_ : Aside0 (((w18.setCell ⟨gb103, 0, none⟩ (.int .i64 ((rd_T64 l1 x17_2).f0))).setCell ⟨gb103, 1, none⟩ (.int .i64 ((rd_T64 l1 x17_2).f1))).heap[gb103]? = some (.cells #[.int .i64 ((rd_T64 l1 x17_2).f0), .int .i64 ((rd_T64 l1 x17_2).f1)] 64 (0, 0))) := ⟨by (with_reducible repeat (first | refine blk_drewN ?_ _ | refine blk_drew ?_ | refine blk_alloc ?_ _)); refine blk_put (cs := #[.int .i64 ((rd_T64 l1 x17_2).f0), .int .i64 0]) ?_ 1 _ rfl; (with_reducible repeat (first | refine blk_drewN ?_ _ | refine blk_drew ?_ | refine blk_alloc ?_ _)); refine blk_put (cs := #[.int .i64 0, .int .i64 0]) ?_ 0 _ rfl; (with_reducible repeat (first | refine blk_drewN ?_ _ | refine blk_drew ?_ | refine blk_alloc ?_ _)); exact BK103.out⟩
                            have n1_ : Aside0 (Below w.heap.size w ((w18.setCell ⟨gb103, 0, none⟩ (.int .i64 ((rd_T64 l1 x17_2).f0))).setCell ⟨gb103, 1, none⟩ (.int .i64 ((rd_T64 l1 x17_2).f1)))) := ⟨by repeat (first | (with_reducible first | exact HB.out | apply below_alloc | apply pw_below_drewN | apply below_drew1 | refine below_set ?_ GE103.out) | exact HB.out)⟩
                            (try clear BK103)
                            (try clear HB)
                            generalize ((w18.setCell ⟨gb103, 0, none⟩ (.int .i64 ((rd_T64 l1 x17_2).f0))).setCell ⟨gb103, 1, none⟩ (.int .i64 ((rd_T64 l1 x17_2).f1))) = w20 at n0_ n1_ ⊢
                            have BK103 := n0_
                            have HB := n1_
                            clear n0_ n1_
                            have n0_ := Aside0.mk (blk_drew BK103.out)
                            have n1_ := Aside0.mk (below_drew1 HB.out)
                            clear BK103
                            clear HB
                            have BK103 := n0_
                            have HB := n1_
                            clear n0_ n1_
                            have p105 : 0 ≤ ((ji13) : Int) := of_decide_eq_true (by first | (with_reducible assumption) | assumption)
                            have q105 : (ji13) < (l1.length : Int) := of_decide_eq_true (by first | (with_reducible assumption) | assumption)
                            obtain ⟨ad105, e105, hx105_0, hx105_1⟩ := at_T64 HR1.out (ji13) p105 q105
                            have hw105_1 := hx105_1
                            have hw105_0 := hx105_0
                            obtain rfl : ad102 = ad105 := (by injection e105)
                            try replace hx105_0 := (HB.out.cell (World.block_lt_of_cell? w _ hx105_0)).trans hx105_0
                            try replace hx105_1 := (HB.out.cell (World.block_lt_of_cell? w _ hx105_1)).trans hx105_1
                            replace p105 := eq_true p105
                            replace q105 := eq_true q105
                            refine start_ (n := 18) (S := fun w' => w'.cell? ⟨gb103, 0, none⟩ = some (.int .i64 ((rd_T64 l1 x17_2).f0)) ∧ w'.cell? ⟨gb103, 1, none⟩ = some (.int .i64 ((rd_T64 l1 x17_2).f1)) ∧ w'.cell? (ad102.add (((ji13)).toNat * 2)) = some (.int .i64 ((rd_T64 l1 (ji13)).f0)) ∧ w'.cell? ⟨(ad102.add (((ji13)).toNat * 2)).block, (ad102.add (((ji13)).toNat * 2)).off + 1, none⟩ = some (.int .i64 ((rd_T64 l1 (ji13)).f1))) (ds := []) #[false, false, false, false, false, false, false, false, false, false, false, false, false, false, false, false, false, false] (by kernel_rfl) rfl rfl ⟨(blk_cell BK103.out 0).trans rfl, (blk_cell BK103.out 1).trans rfl, ((HB.out.cell (World.block_lt_of_cell? w _ hw105_0)).trans hw105_0), ((HB.out.cell (World.block_lt_of_cell? w _ hw105_1)).trans hw105_1)⟩ (fun hHeld => ?_); refine with_tabW spec_cdGood.tab6 spec_cdGood.bits6 (fun HT_ HW_ => ?_)
                            generalize w20.drew = w21 at BK103 HB hx105_0 hx105_1 hHeld ⊢
                            refine pure_ (i := 0) (N := some 22) (v := ?_) (a' := ?_) #[true, false, false, false, false, false, false, false, false, false, false, false, false, false, false, false, false, false] rfl rfl (any_of HT_.out (by kernel_rfl)) (fun _ _ _ h => h) (Or.inl ⟨by rfl, ?_⟩) ?_ ?_
                            rotate_left
                            · intro w'
                              go_simp
                              with_reducible rfl
                            rotate_left
                            · simp only [Act.put, List.setIfInBounds_toArray, List.set_cons_zero, List.set_cons_succ, i64_w, i32_w]
                              rfl
                            refine take_ (i := 1) (N := some 23) (v := ?_) (a' := ?_) #[true, true, false, false, false, false, false, false, false, false, false, false, false, false, false, false, false, false] rfl rfl (take_ofW HT_.out HW_.out (by kernel_rfl)) (fun _ _ _ h => h) (Or.inl ⟨by rfl, ?_⟩) hHeld ?_ ?_
                            rotate_left
                            · rintro w' ⟨s0, s1, s2, s3⟩
                              go_simp
                              with_reducible rfl
                            rotate_left
                            · simp only [Act.put, List.setIfInBounds_toArray, List.set_cons_zero, List.set_cons_succ, i64_w, i32_w]
                              rfl
                            refine one_ (i := 2) (N := some 24) #[true, true, true, false, false, false, false, false, false, false, false, false, false, false, false, false, false, false] rfl rfl (one_of HT_.out (by kernel_rfl)) (by decide) (fun K hK => ?_)
                            refine goes_ Try.func111 (by kernel_rfl) rfl #[.int .i64 a0, .agg #[.int .i64 ((rd_T64 l1 x17_2).f0), .int .i64 ((rd_T64 l1 x17_2).f1)]] (by rfl) rfl rfl (by (try simp only [List.map_toArray, List.map_cons, List.map_nil]); first | done | rfl | (simp only [List.length_drop, List.length_take]; rfl)) ?_
                            with_reducible refine (spec_srIs.calls a0 ((rd_T64 l1 x17_2).f0) ((rd_T64 l1 x17_2).f1) true _ A10.out).mono ?_
                            rintro e w22 ⟨rfl, hb⟩
                            refine ⟨_, rfl, ?_⟩
                            have n0_ := Aside0.mk (blk_below (g := gb103) (o := .cells #[.int .i64 ((rd_T64 l1 x17_2).f0), .int .i64 ((rd_T64 l1 x17_2).f1)] 64 (0, 0)) (by (with_reducible repeat (first | refine blk_drewN ?_ _ | refine blk_drew ?_ | refine blk_alloc ?_ _)); exact BK103.out) hb)
                            have n1_ := Aside0.mk (below_step (by repeat (first | (with_reducible first | exact HB.out | apply below_alloc | apply pw_below_drewN | apply below_drew1 | refine below_set ?_ GE103.out) | exact HB.out)) hb)
                            clear BK103
                            clear HB
                            have BK103 := n0_
                            have HB := n1_
                            clear n0_ n1_
                            (try clear hb)
                            (try clear hb2)
                            (try clear hk)
                            (try clear hi)
                            refine hK.out _ _ ⟨(blk_cell BK103.out 0).trans rfl, (blk_cell BK103.out 1).trans rfl, ((HB.out.cell (World.block_lt_of_cell? w _ hw105_0)).trans hw105_0), ((HB.out.cell (World.block_lt_of_cell? w _ hw105_1)).trans hw105_1)⟩ (fun hHeld => ?_)
                            clear hK K
                            refine norm_ (a' := ?_) ?_ ?_
                            rotate_left
                            · show Act.put _ (some 24) _ = _
                              simp only [Act.put, List.setIfInBounds_toArray, List.set_cons_zero, List.set_cons_succ, i64_w, i32_w]
                              rfl
                            refine pure_ (i := 3) (N := some 25) (v := ?_) (a' := ?_) #[true, true, true, true, false, false, false, false, false, false, false, false, false, false, false, false, false, false] rfl rfl (any_of HT_.out (by kernel_rfl)) (fun _ _ _ h => h) (Or.inl ⟨by rfl, ?_⟩) ?_ ?_
                            rotate_left
                            · intro w'
                              go_simp
                              with_reducible rfl
                            rotate_left
                            · simp only [Act.put, List.setIfInBounds_toArray, List.set_cons_zero, List.set_cons_succ, i64_w, i32_w]
                              rfl
                            refine pure_ (i := 4) (N := some 26) (v := ?_) (a' := ?_) #[true, true, true, true, true, false, false, false, false, false, false, false, false, false, false, false, false, false] rfl rfl (any_of HT_.out (by kernel_rfl)) (fun _ _ _ h => h) (Or.inl ⟨by rfl, ?_⟩) ?_ ?_
                            rotate_left
                            · intro w'
                              go_simp
                              with_reducible rfl
                            rotate_left
                            · simp only [Act.put, List.setIfInBounds_toArray, List.set_cons_zero, List.set_cons_succ, i64_w, i32_w]
                              rfl
                            refine pure_ (i := 5) (N := some 27) (v := ?_) (a' := ?_) #[true, true, true, true, true, true, false, false, false, false, false, false, false, false, false, false, false, false] rfl rfl (any_of HT_.out (by kernel_rfl)) (fun _ _ _ h => h) (Or.inl ⟨by rfl, ?_⟩) ?_ ?_
                            rotate_left
                            · intro w'
                              go_simp
                              with_reducible rfl
                            rotate_left
                            · simp only [Act.put, List.setIfInBounds_toArray, List.set_cons_zero, List.set_cons_succ, i64_w, i32_w]
                              rfl
                            refine pure_ (i := 6) (N := some 28) (v := ?_) (a' := ?_) #[true, true, true, true, true, true, true, false, false, false, false, false, false, false, false, false, false, false] rfl rfl (any_of HT_.out (by kernel_rfl)) (fun _ _ _ h => h) (Or.inl ⟨by rfl, ?_⟩) ?_ ?_
                            rotate_left
                            · intro w'
                              go_simp
                              with_reducible rfl
                            rotate_left
                            · simp only [Act.put, List.setIfInBounds_toArray, List.set_cons_zero, List.set_cons_succ, i64_w, i32_w]
                              rfl
                            refine pure_ (i := 7) (N := some 29) (v := ?_) (a' := ?_) #[true, true, true, true, true, true, true, true, false, false, false, false, false, false, false, false, false, false] rfl rfl (any_of HT_.out (by kernel_rfl)) (fun _ _ _ h => h) (Or.inl ⟨by rfl, ?_⟩) ?_ ?_
                            rotate_left
                            · intro w'
                              go_simp
                              with_reducible rfl
                            rotate_left
                            · simp only [Act.put, List.setIfInBounds_toArray, List.set_cons_zero, List.set_cons_succ, i64_w, i32_w]
                              rfl
                            refine pure_ (i := 8) (N := some 30) (v := ?_) (a' := ?_) #[true, true, true, true, true, true, true, true, true, false, false, false, false, false, false, false, false, false] rfl rfl (any_of HT_.out (by kernel_rfl)) (fun _ _ _ h => h) (Or.inl ⟨by rfl, ?_⟩) ?_ ?_
                            rotate_left
                            · intro w'
                              go_simp
                              with_reducible rfl
                            rotate_left
                            · simp only [Act.put, List.setIfInBounds_toArray, List.set_cons_zero, List.set_cons_succ, i64_w, i32_w]
                              rfl
                            refine pure_ (i := 9) (N := some 31) (v := ?_) (a' := ?_) #[true, true, true, true, true, true, true, true, true, true, false, false, false, false, false, false, false, false] rfl rfl (any_of HT_.out (by kernel_rfl)) (fun _ _ _ h => h) (Or.inl ⟨by rfl, ?_⟩) ?_ ?_
                            rotate_left
                            · intro w'
                              go_simp
                              with_reducible rfl
                            rotate_left
                            · simp only [Act.put, List.setIfInBounds_toArray, List.set_cons_zero, List.set_cons_succ, i64_w, i32_w]
                              rfl
                            refine pure_ (i := 10) (N := some 32) (v := ?_) (a' := ?_) #[true, true, true, true, true, true, true, true, true, true, true, false, false, false, false, false, false, false] rfl rfl (any_of HT_.out (by kernel_rfl)) (fun _ _ _ h => h) (Or.inl ⟨by rfl, ?_⟩) ?_ ?_
                            rotate_left
                            · intro w'
                              go_simp
                              with_reducible rfl
                            rotate_left
                            · simp only [Act.put, List.setIfInBounds_toArray, List.set_cons_zero, List.set_cons_succ, i64_w, i32_w]
                              rfl
                            refine pure_ (i := 11) (N := some 33) (v := ?_) (a' := ?_) #[true, true, true, true, true, true, true, true, true, true, true, true, false, false, false, false, false, false] rfl rfl (any_of HT_.out (by kernel_rfl)) (fun _ _ _ h => h) (Or.inl ⟨by rfl, ?_⟩) ?_ ?_
                            rotate_left
                            · intro w'
                              go_simp
                              with_reducible rfl
                            rotate_left
                            · simp only [Act.put, List.setIfInBounds_toArray, List.set_cons_zero, List.set_cons_succ, i64_w, i32_w]
                              rfl
                            refine take_ (i := 12) (N := some 34) (v := ?_) (a' := ?_) #[true, true, true, true, true, true, true, true, true, true, true, true, true, false, false, false, false, false] rfl rfl (take_ofW HT_.out HW_.out (by kernel_rfl)) (fun _ _ _ h => h) (Or.inl ⟨by rfl, ?_⟩) hHeld ?_ ?_
                            rotate_left
                            · rintro w' ⟨s0, s1, s2, s3⟩
                              go_simp
                              with_reducible rfl
                            rotate_left
                            · simp only [Act.put, List.setIfInBounds_toArray, List.set_cons_zero, List.set_cons_succ, i64_w, i32_w]
                              rfl
                            refine take_ (i := 13) (N := some 35) (v := ?_) (a' := ?_) #[true, true, true, true, true, true, true, true, true, true, true, true, true, true, false, false, false, false] rfl rfl (take_ofW HT_.out HW_.out (by kernel_rfl)) (fun _ _ _ h => h) (Or.inl ⟨by rfl, ?_⟩) hHeld ?_ ?_
                            rotate_left
                            · rintro w' ⟨s0, s1, s2, s3⟩
                              go_simp
                              with_reducible rfl
                            rotate_left
                            · simp only [Act.put, List.setIfInBounds_toArray, List.set_cons_zero, List.set_cons_succ, i64_w, i32_w]
                              rfl
                            refine one_ (i := 14) (N := some 36) #[true, true, true, true, true, true, true, true, true, true, true, true, true, true, true, false, false, false] rfl rfl (one_of HT_.out (by kernel_rfl)) (by decide) (fun K hK => ?_)
                            refine goes_ Try.func112 (by kernel_rfl) rfl #[.agg #[.int .i64 ((rd_T64 l1 (ji13)).f0), .int .i64 ((rd_T64 l1 (ji13)).f1)], .agg #[.int .i64 ((rd_T64 l1 x17_2).f0), .int .i64 ((rd_T64 l1 x17_2).f1)]] (by rfl) rfl rfl (by (try simp only [List.map_toArray, List.map_cons, List.map_nil]); first | done | (simp only [hji13]; rfl) | rfl | (simp only [List.length_drop, List.length_take]; rfl)) ?_
                            with_reducible refine (spec_srLess.calls ((rd_T64 l1 (ji13)).f0) ((rd_T64 l1 (ji13)).f1) ((rd_T64 l1 x17_2).f0) ((rd_T64 l1 x17_2).f1) true _ A16.out).mono ?_
                            rintro e w23 ⟨rfl, hb⟩
                            refine ⟨_, rfl, ?_⟩
                            have n0_ := Aside0.mk (blk_below (g := gb103) (o := .cells #[.int .i64 ((rd_T64 l1 x17_2).f0), .int .i64 ((rd_T64 l1 x17_2).f1)] 64 (0, 0)) (by (with_reducible repeat (first | refine blk_drewN ?_ _ | refine blk_drew ?_ | refine blk_alloc ?_ _)); exact BK103.out) hb)
                            have n1_ := Aside0.mk (below_step (by repeat (first | (with_reducible first | exact HB.out | apply below_alloc | apply pw_below_drewN | apply below_drew1 | refine below_set ?_ GE103.out) | exact HB.out)) hb)
                            clear BK103
                            clear HB
                            have BK103 := n0_
                            have HB := n1_
                            clear n0_ n1_
                            (try clear hb)
                            (try clear hb2)
                            (try clear hk)
                            (try clear hi)
                            refine hK.out _ _ ⟨(blk_cell BK103.out 0).trans rfl, (blk_cell BK103.out 1).trans rfl, ((HB.out.cell (World.block_lt_of_cell? w _ hw105_0)).trans hw105_0), ((HB.out.cell (World.block_lt_of_cell? w _ hw105_1)).trans hw105_1)⟩ (fun hHeld => ?_)
                            clear hK K
                            refine norm_ (a' := ?_) ?_ ?_
                            rotate_left
                            · show Act.put _ (some 36) _ = _
                              simp only [Act.put, List.setIfInBounds_toArray, List.set_cons_zero, List.set_cons_succ, i64_w, i32_w]
                              rfl
                            refine pure_ (i := 15) (N := some 37) (v := ?_) (a' := ?_) #[true, true, true, true, true, true, true, true, true, true, true, true, true, true, true, true, false, false] rfl rfl (any_of HT_.out (by kernel_rfl)) (fun _ _ _ h => h) (Or.inl ⟨by rfl, ?_⟩) ?_ ?_
                            rotate_left
                            · intro w'
                              go_simp
                              with_reducible rfl
                            rotate_left
                            · simp only [Act.put, List.setIfInBounds_toArray, List.set_cons_zero, List.set_cons_succ, i64_w, i32_w]
                              rfl
                            refine pure_ (i := 16) (N := some 38) (v := ?_) (a' := ?_) #[true, true, true, true, true, true, true, true, true, true, true, true, true, true, true, true, true, false] rfl rfl (any_of HT_.out (by kernel_rfl)) (fun _ _ _ h => h) (Or.inl ⟨by rfl, ?_⟩) ?_ ?_
                            rotate_left
                            · intro w'
                              go_simp
                              with_reducible rfl
                            rotate_left
                            · simp only [Act.put, List.setIfInBounds_toArray, List.set_cons_zero, List.set_cons_succ, i64_w, i32_w]
                              rfl
                            refine pure_ (i := 17) (N := some 39) (v := ?_) (a' := ?_) #[true, true, true, true, true, true, true, true, true, true, true, true, true, true, true, true, true, true] rfl rfl (any_of HT_.out (by kernel_rfl)) (fun _ _ _ h => h) (Or.inl ⟨by rfl, ?_⟩) ?_ ?_
                            rotate_left
                            · intro w'
                              go_simp
                              with_reducible rfl
                            rotate_left
                            · simp only [Act.put, List.setIfInBounds_toArray, List.set_cons_zero, List.set_cons_succ, i64_w, i32_w]
                              rfl
                            refine done_ (done_of HT_.out (by kernel_rfl)) ?_
                            try go_wp2
                            go_roundg k2
                            case measure => have := HJ2.out; have := HK2.out; omega
                            case rel => exact ⟨(wrap64 (x17_2 + 1)), (by first | rfl | (simp; done) | (simp [*]; done)), H', ⟨by have := HJ2.out; have := HK2.out; omega⟩, ⟨by repeat (first | (with_reducible first | exact HB.out | apply below_alloc | apply pw_below_drewN | apply below_drew1 | refine below_set ?_ GE103.out) | exact HB.out)⟩⟩
                          · replace c17 := Bool.eq_false_iff.mpr c17
                            subst c17
                            have H1 : (some false) = some r := by rw [if_neg (show ¬ (false = true) by decide)] at H; exact H
                            clear H
                            have H := H1
                            clear H1
                            obtain rfl := Option.some.inj H
                            have p102 : 0 ≤ (x17_2 : Int) := of_decide_eq_true (by first | (with_reducible assumption) | assumption)
                            have q102 : x17_2 < (l1.length : Int) := of_decide_eq_true (by first | (with_reducible assumption) | assumption)
                            obtain ⟨ad102, e102, hx102_0, hx102_1⟩ := at_T64 HR1.out x17_2 p102 q102
                            cases e102
                            try replace hx102_0 := (HB.out.cell (World.block_lt_of_cell? w _ hx102_0)).trans hx102_0
                            try replace hx102_1 := (HB.out.cell (World.block_lt_of_cell? w _ hx102_1)).trans hx102_1
                            replace p102 := eq_true p102
                            replace q102 := eq_true q102
                            try go_wp2_with (first | ((with_reducible refine gate_dst (N := 6) rfl ?_); (try (refine gate_guard (by rfl) ?_; dsimp only)); refine box_event ?hg (N := 6) ?hd (cs := #[.int .i64 0, .int .i64 0]) (t := 64) ?hr ?_; (case hd => rfl); (case hg => rfl); (case hr => first | (go_simp; done) | (go_simp; rfl)); intro gb103 hg w24 hbox hb; have n0_ := Aside0.mk (below_step (by repeat (first | (with_reducible first | exact HB.out | apply below_alloc | apply pw_below_drewN | apply below_drew1) | exact HB.out)) hb); have n1_ := Aside0.mk (hbox); have n2_ := Aside0.mk ((by rw [hg]; exact (below_size (by repeat (first | (with_reducible first | exact HB.out | apply below_alloc | apply pw_below_drewN | apply below_drew1) | exact HB.out))) : w.heap.size ≤ gb103)); have n3_ := Aside0.mk ((by rw [hg]; exact (below_size (by repeat (first | (with_reducible first | exact HB.out | apply below_alloc | apply pw_below_drewN | apply below_drew1) | exact HB.out))) : w.heap.size ≤ gb103)); clear HB; have HB := n0_; have BK103 := n1_; have GW103 := n2_; have GE103 := n3_; clear n0_ n1_ n2_ n3_; clear hb hbox hg; have hcz25_0 : w24.cell? ⟨gb103, 0, none⟩ = some (.int .i64 0) := (blk_cell BK103.out 0).trans rfl; have hcz25_1 : w24.cell? ⟨gb103, 1, none⟩ = some (.int .i64 0) := (blk_cell BK103.out 1).trans rfl; have hfz25_0 := blk_frozen BK103.out 0; have hfz25_1 := blk_frozen BK103.out 1))
                            have n0_ : Aside0 (((w24.setCell ⟨gb103, 0, none⟩ (.int .i64 ((rd_T64 l1 x17_2).f0))).setCell ⟨gb103, 1, none⟩ (.int .i64 ((rd_T64 l1 x17_2).f1))).heap[gb103]? = some (.cells #[.int .i64 ((rd_T64 l1 x17_2).f0), .int .i64 ((rd_T64 l1 x17_2).f1)] 64 (0, 0))) := ⟨by (with_reducible repeat (first | refine blk_drewN ?_ _ | refine blk_drew ?_ | refine blk_alloc ?_ _)); refine blk_put (cs := #[.int .i64 ((rd_T64 l1 x17_2).f0), .int .i64 0]) ?_ 1 _ rfl; (with_reducible repeat (first | refine blk_drewN ?_ _ | refine blk_drew ?_ | refine blk_alloc ?_ _)); refine blk_put (cs := #[.int .i64 0, .int .i64 0]) ?_ 0 _ rfl; (with_reducible repeat (first | refine blk_drewN ?_ _ | refine blk_drew ?_ | refine blk_alloc ?_ _)); exact BK103.out⟩
                            have n1_ : Aside0 (Below w.heap.size w ((w24.setCell ⟨gb103, 0, none⟩ (.int .i64 ((rd_T64 l1 x17_2).f0))).setCell ⟨gb103, 1, none⟩ (.int .i64 ((rd_T64 l1 x17_2).f1)))) := ⟨by repeat (first | (with_reducible first | exact HB.out | apply below_alloc | apply pw_below_drewN | apply below_drew1 | refine below_set ?_ GE103.out) | exact HB.out)⟩
                            (try clear BK103)
                            (try clear HB)
                            generalize ((w24.setCell ⟨gb103, 0, none⟩ (.int .i64 ((rd_T64 l1 x17_2).f0))).setCell ⟨gb103, 1, none⟩ (.int .i64 ((rd_T64 l1 x17_2).f1))) = w26 at n0_ n1_ ⊢
                            have BK103 := n0_
                            have HB := n1_
                            clear n0_ n1_
                            have n0_ := Aside0.mk (blk_drew BK103.out)
                            have n1_ := Aside0.mk (below_drew1 HB.out)
                            clear BK103
                            clear HB
                            have BK103 := n0_
                            have HB := n1_
                            clear n0_ n1_
                            have p105 : 0 ≤ ((ji13) : Int) := of_decide_eq_true (by first | (with_reducible assumption) | assumption)
                            have q105 : (ji13) < (l1.length : Int) := of_decide_eq_true (by first | (with_reducible assumption) | assumption)
                            obtain ⟨ad105, e105, hx105_0, hx105_1⟩ := at_T64 HR1.out (ji13) p105 q105
                            have hw105_1 := hx105_1
                            have hw105_0 := hx105_0
                            obtain rfl : ad102 = ad105 := (by injection e105)
                            try replace hx105_0 := (HB.out.cell (World.block_lt_of_cell? w _ hx105_0)).trans hx105_0
                            try replace hx105_1 := (HB.out.cell (World.block_lt_of_cell? w _ hx105_1)).trans hx105_1
                            replace p105 := eq_true p105
                            replace q105 := eq_true q105
                            refine start_ (n := 18) (S := fun w' => w'.cell? ⟨gb103, 0, none⟩ = some (.int .i64 ((rd_T64 l1 x17_2).f0)) ∧ w'.cell? ⟨gb103, 1, none⟩ = some (.int .i64 ((rd_T64 l1 x17_2).f1)) ∧ w'.cell? (ad102.add (((ji13)).toNat * 2)) = some (.int .i64 ((rd_T64 l1 (ji13)).f0)) ∧ w'.cell? ⟨(ad102.add (((ji13)).toNat * 2)).block, (ad102.add (((ji13)).toNat * 2)).off + 1, none⟩ = some (.int .i64 ((rd_T64 l1 (ji13)).f1))) (ds := []) #[false, false, false, false, false, false, false, false, false, false, false, false, false, false, false, false, false, false] (by kernel_rfl) rfl rfl ⟨(blk_cell BK103.out 0).trans rfl, (blk_cell BK103.out 1).trans rfl, ((HB.out.cell (World.block_lt_of_cell? w _ hw105_0)).trans hw105_0), ((HB.out.cell (World.block_lt_of_cell? w _ hw105_1)).trans hw105_1)⟩ (fun hHeld => ?_); refine with_tabW spec_cdGood.tab6 spec_cdGood.bits6 (fun HT_ HW_ => ?_)
                            generalize w26.drew = w27 at BK103 HB hx105_0 hx105_1 hHeld ⊢
                            refine pure_ (i := 0) (N := some 22) (v := ?_) (a' := ?_) #[true, false, false, false, false, false, false, false, false, false, false, false, false, false, false, false, false, false] rfl rfl (any_of HT_.out (by kernel_rfl)) (fun _ _ _ h => h) (Or.inl ⟨by rfl, ?_⟩) ?_ ?_
                            rotate_left
                            · intro w'
                              go_simp
                              with_reducible rfl
                            rotate_left
                            · simp only [Act.put, List.setIfInBounds_toArray, List.set_cons_zero, List.set_cons_succ, i64_w, i32_w]
                              rfl
                            refine take_ (i := 1) (N := some 23) (v := ?_) (a' := ?_) #[true, true, false, false, false, false, false, false, false, false, false, false, false, false, false, false, false, false] rfl rfl (take_ofW HT_.out HW_.out (by kernel_rfl)) (fun _ _ _ h => h) (Or.inl ⟨by rfl, ?_⟩) hHeld ?_ ?_
                            rotate_left
                            · rintro w' ⟨s0, s1, s2, s3⟩
                              go_simp
                              with_reducible rfl
                            rotate_left
                            · simp only [Act.put, List.setIfInBounds_toArray, List.set_cons_zero, List.set_cons_succ, i64_w, i32_w]
                              rfl
                            refine one_ (i := 2) (N := some 24) #[true, true, true, false, false, false, false, false, false, false, false, false, false, false, false, false, false, false] rfl rfl (one_of HT_.out (by kernel_rfl)) (by decide) (fun K hK => ?_)
                            refine goes_ Try.func111 (by kernel_rfl) rfl #[.int .i64 a0, .agg #[.int .i64 ((rd_T64 l1 x17_2).f0), .int .i64 ((rd_T64 l1 x17_2).f1)]] (by rfl) rfl rfl (by (try simp only [List.map_toArray, List.map_cons, List.map_nil]); first | done | rfl | (simp only [List.length_drop, List.length_take]; rfl)) ?_
                            with_reducible refine (spec_srIs.calls a0 ((rd_T64 l1 x17_2).f0) ((rd_T64 l1 x17_2).f1) true _ A10.out).mono ?_
                            rintro e w28 ⟨rfl, hb⟩
                            refine ⟨_, rfl, ?_⟩
                            have n0_ := Aside0.mk (blk_below (g := gb103) (o := .cells #[.int .i64 ((rd_T64 l1 x17_2).f0), .int .i64 ((rd_T64 l1 x17_2).f1)] 64 (0, 0)) (by (with_reducible repeat (first | refine blk_drewN ?_ _ | refine blk_drew ?_ | refine blk_alloc ?_ _)); exact BK103.out) hb)
                            have n1_ := Aside0.mk (below_step (by repeat (first | (with_reducible first | exact HB.out | apply below_alloc | apply pw_below_drewN | apply below_drew1 | refine below_set ?_ GE103.out) | exact HB.out)) hb)
                            clear BK103
                            clear HB
                            have BK103 := n0_
                            have HB := n1_
                            clear n0_ n1_
                            (try clear hb)
                            (try clear hb2)
                            (try clear hk)
                            (try clear hi)
                            refine hK.out _ _ ⟨(blk_cell BK103.out 0).trans rfl, (blk_cell BK103.out 1).trans rfl, ((HB.out.cell (World.block_lt_of_cell? w _ hw105_0)).trans hw105_0), ((HB.out.cell (World.block_lt_of_cell? w _ hw105_1)).trans hw105_1)⟩ (fun hHeld => ?_)
                            clear hK K
                            refine norm_ (a' := ?_) ?_ ?_
                            rotate_left
                            · show Act.put _ (some 24) _ = _
                              simp only [Act.put, List.setIfInBounds_toArray, List.set_cons_zero, List.set_cons_succ, i64_w, i32_w]
                              rfl
                            refine pure_ (i := 3) (N := some 25) (v := ?_) (a' := ?_) #[true, true, true, true, false, false, false, false, false, false, false, false, false, false, false, false, false, false] rfl rfl (any_of HT_.out (by kernel_rfl)) (fun _ _ _ h => h) (Or.inl ⟨by rfl, ?_⟩) ?_ ?_
                            rotate_left
                            · intro w'
                              go_simp
                              with_reducible rfl
                            rotate_left
                            · simp only [Act.put, List.setIfInBounds_toArray, List.set_cons_zero, List.set_cons_succ, i64_w, i32_w]
                              rfl
                            refine pure_ (i := 4) (N := some 26) (v := ?_) (a' := ?_) #[true, true, true, true, true, false, false, false, false, false, false, false, false, false, false, false, false, false] rfl rfl (any_of HT_.out (by kernel_rfl)) (fun _ _ _ h => h) (Or.inl ⟨by rfl, ?_⟩) ?_ ?_
                            rotate_left
                            · intro w'
                              go_simp
                              with_reducible rfl
                            rotate_left
                            · simp only [Act.put, List.setIfInBounds_toArray, List.set_cons_zero, List.set_cons_succ, i64_w, i32_w]
                              rfl
                            refine pure_ (i := 5) (N := some 27) (v := ?_) (a' := ?_) #[true, true, true, true, true, true, false, false, false, false, false, false, false, false, false, false, false, false] rfl rfl (any_of HT_.out (by kernel_rfl)) (fun _ _ _ h => h) (Or.inl ⟨by rfl, ?_⟩) ?_ ?_
                            rotate_left
                            · intro w'
                              go_simp
                              with_reducible rfl
                            rotate_left
                            · simp only [Act.put, List.setIfInBounds_toArray, List.set_cons_zero, List.set_cons_succ, i64_w, i32_w]
                              rfl
                            refine pure_ (i := 6) (N := some 28) (v := ?_) (a' := ?_) #[true, true, true, true, true, true, true, false, false, false, false, false, false, false, false, false, false, false] rfl rfl (any_of HT_.out (by kernel_rfl)) (fun _ _ _ h => h) (Or.inl ⟨by rfl, ?_⟩) ?_ ?_
                            rotate_left
                            · intro w'
                              go_simp
                              with_reducible rfl
                            rotate_left
                            · simp only [Act.put, List.setIfInBounds_toArray, List.set_cons_zero, List.set_cons_succ, i64_w, i32_w]
                              rfl
                            refine pure_ (i := 7) (N := some 29) (v := ?_) (a' := ?_) #[true, true, true, true, true, true, true, true, false, false, false, false, false, false, false, false, false, false] rfl rfl (any_of HT_.out (by kernel_rfl)) (fun _ _ _ h => h) (Or.inl ⟨by rfl, ?_⟩) ?_ ?_
                            rotate_left
                            · intro w'
                              go_simp
                              with_reducible rfl
                            rotate_left
                            · simp only [Act.put, List.setIfInBounds_toArray, List.set_cons_zero, List.set_cons_succ, i64_w, i32_w]
                              rfl
                            refine pure_ (i := 8) (N := some 30) (v := ?_) (a' := ?_) #[true, true, true, true, true, true, true, true, true, false, false, false, false, false, false, false, false, false] rfl rfl (any_of HT_.out (by kernel_rfl)) (fun _ _ _ h => h) (Or.inl ⟨by rfl, ?_⟩) ?_ ?_
                            rotate_left
                            · intro w'
                              go_simp
                              with_reducible rfl
                            rotate_left
                            · simp only [Act.put, List.setIfInBounds_toArray, List.set_cons_zero, List.set_cons_succ, i64_w, i32_w]
                              rfl
                            refine pure_ (i := 9) (N := some 31) (v := ?_) (a' := ?_) #[true, true, true, true, true, true, true, true, true, true, false, false, false, false, false, false, false, false] rfl rfl (any_of HT_.out (by kernel_rfl)) (fun _ _ _ h => h) (Or.inl ⟨by rfl, ?_⟩) ?_ ?_
                            rotate_left
                            · intro w'
                              go_simp
                              with_reducible rfl
                            rotate_left
                            · simp only [Act.put, List.setIfInBounds_toArray, List.set_cons_zero, List.set_cons_succ, i64_w, i32_w]
                              rfl
                            refine pure_ (i := 10) (N := some 32) (v := ?_) (a' := ?_) #[true, true, true, true, true, true, true, true, true, true, true, false, false, false, false, false, false, false] rfl rfl (any_of HT_.out (by kernel_rfl)) (fun _ _ _ h => h) (Or.inl ⟨by rfl, ?_⟩) ?_ ?_
                            rotate_left
                            · intro w'
                              go_simp
                              with_reducible rfl
                            rotate_left
                            · simp only [Act.put, List.setIfInBounds_toArray, List.set_cons_zero, List.set_cons_succ, i64_w, i32_w]
                              rfl
                            refine pure_ (i := 11) (N := some 33) (v := ?_) (a' := ?_) #[true, true, true, true, true, true, true, true, true, true, true, true, false, false, false, false, false, false] rfl rfl (any_of HT_.out (by kernel_rfl)) (fun _ _ _ h => h) (Or.inl ⟨by rfl, ?_⟩) ?_ ?_
                            rotate_left
                            · intro w'
                              go_simp
                              with_reducible rfl
                            rotate_left
                            · simp only [Act.put, List.setIfInBounds_toArray, List.set_cons_zero, List.set_cons_succ, i64_w, i32_w]
                              rfl
                            refine take_ (i := 12) (N := some 34) (v := ?_) (a' := ?_) #[true, true, true, true, true, true, true, true, true, true, true, true, true, false, false, false, false, false] rfl rfl (take_ofW HT_.out HW_.out (by kernel_rfl)) (fun _ _ _ h => h) (Or.inl ⟨by rfl, ?_⟩) hHeld ?_ ?_
                            rotate_left
                            · rintro w' ⟨s0, s1, s2, s3⟩
                              go_simp
                              with_reducible rfl
                            rotate_left
                            · simp only [Act.put, List.setIfInBounds_toArray, List.set_cons_zero, List.set_cons_succ, i64_w, i32_w]
                              rfl
                            refine take_ (i := 13) (N := some 35) (v := ?_) (a' := ?_) #[true, true, true, true, true, true, true, true, true, true, true, true, true, true, false, false, false, false] rfl rfl (take_ofW HT_.out HW_.out (by kernel_rfl)) (fun _ _ _ h => h) (Or.inl ⟨by rfl, ?_⟩) hHeld ?_ ?_
                            rotate_left
                            · rintro w' ⟨s0, s1, s2, s3⟩
                              go_simp
                              with_reducible rfl
                            rotate_left
                            · simp only [Act.put, List.setIfInBounds_toArray, List.set_cons_zero, List.set_cons_succ, i64_w, i32_w]
                              rfl
                            refine one_ (i := 14) (N := some 36) #[true, true, true, true, true, true, true, true, true, true, true, true, true, true, true, false, false, false] rfl rfl (one_of HT_.out (by kernel_rfl)) (by decide) (fun K hK => ?_)
                            refine goes_ Try.func112 (by kernel_rfl) rfl #[.agg #[.int .i64 ((rd_T64 l1 (ji13)).f0), .int .i64 ((rd_T64 l1 (ji13)).f1)], .agg #[.int .i64 ((rd_T64 l1 x17_2).f0), .int .i64 ((rd_T64 l1 x17_2).f1)]] (by rfl) rfl rfl (by (try simp only [List.map_toArray, List.map_cons, List.map_nil]); first | done | (simp only [hji13]; rfl) | rfl | (simp only [List.length_drop, List.length_take]; rfl)) ?_
                            with_reducible refine (spec_srLess.calls ((rd_T64 l1 (ji13)).f0) ((rd_T64 l1 (ji13)).f1) ((rd_T64 l1 x17_2).f0) ((rd_T64 l1 x17_2).f1) false _ A16.out).mono ?_
                            rintro e w29 ⟨rfl, hb⟩
                            refine ⟨_, rfl, ?_⟩
                            have n0_ := Aside0.mk (blk_below (g := gb103) (o := .cells #[.int .i64 ((rd_T64 l1 x17_2).f0), .int .i64 ((rd_T64 l1 x17_2).f1)] 64 (0, 0)) (by (with_reducible repeat (first | refine blk_drewN ?_ _ | refine blk_drew ?_ | refine blk_alloc ?_ _)); exact BK103.out) hb)
                            have n1_ := Aside0.mk (below_step (by repeat (first | (with_reducible first | exact HB.out | apply below_alloc | apply pw_below_drewN | apply below_drew1 | refine below_set ?_ GE103.out) | exact HB.out)) hb)
                            clear BK103
                            clear HB
                            have BK103 := n0_
                            have HB := n1_
                            clear n0_ n1_
                            (try clear hb)
                            (try clear hb2)
                            (try clear hk)
                            (try clear hi)
                            refine hK.out _ _ ⟨(blk_cell BK103.out 0).trans rfl, (blk_cell BK103.out 1).trans rfl, ((HB.out.cell (World.block_lt_of_cell? w _ hw105_0)).trans hw105_0), ((HB.out.cell (World.block_lt_of_cell? w _ hw105_1)).trans hw105_1)⟩ (fun hHeld => ?_)
                            clear hK K
                            refine norm_ (a' := ?_) ?_ ?_
                            rotate_left
                            · show Act.put _ (some 36) _ = _
                              simp only [Act.put, List.setIfInBounds_toArray, List.set_cons_zero, List.set_cons_succ, i64_w, i32_w]
                              rfl
                            refine pure_ (i := 15) (N := some 37) (v := ?_) (a' := ?_) #[true, true, true, true, true, true, true, true, true, true, true, true, true, true, true, true, false, false] rfl rfl (any_of HT_.out (by kernel_rfl)) (fun _ _ _ h => h) (Or.inl ⟨by rfl, ?_⟩) ?_ ?_
                            rotate_left
                            · intro w'
                              go_simp
                              with_reducible rfl
                            rotate_left
                            · simp only [Act.put, List.setIfInBounds_toArray, List.set_cons_zero, List.set_cons_succ, i64_w, i32_w]
                              rfl
                            refine pure_ (i := 16) (N := some 38) (v := ?_) (a' := ?_) #[true, true, true, true, true, true, true, true, true, true, true, true, true, true, true, true, true, false] rfl rfl (any_of HT_.out (by kernel_rfl)) (fun _ _ _ h => h) (Or.inl ⟨by rfl, ?_⟩) ?_ ?_
                            rotate_left
                            · intro w'
                              go_simp
                              with_reducible rfl
                            rotate_left
                            · simp only [Act.put, List.setIfInBounds_toArray, List.set_cons_zero, List.set_cons_succ, i64_w, i32_w]
                              rfl
                            refine pure_ (i := 17) (N := some 39) (v := ?_) (a' := ?_) #[true, true, true, true, true, true, true, true, true, true, true, true, true, true, true, true, true, true] rfl rfl (any_of HT_.out (by kernel_rfl)) (fun _ _ _ h => h) (Or.inl ⟨by rfl, ?_⟩) ?_ ?_
                            rotate_left
                            · intro w'
                              go_simp
                              with_reducible rfl
                            rotate_left
                            · simp only [Act.put, List.setIfInBounds_toArray, List.set_cons_zero, List.set_cons_succ, i64_w, i32_w]
                              rfl
                            refine done_ (done_of HT_.out (by kernel_rfl)) ?_
                            try go_wp2
                            go_ret
                            exact ⟨by first | rfl | (simp [errW_none, errW_some] <;> rfl) | (simp only [← hji13]; first | rfl | (simp [errW_none, errW_some] <;> rfl)) | (simp [*, errW_none, errW_some] <;> rfl), by repeat (first | (with_reducible first | exact HB.out | apply below_alloc | apply pw_below_drewN | apply below_drew1 | refine below_set ?_ GE103.out) | exact HB.out)⟩
                        · rw [if_neg c15] at H
                          exact absurd H (by simp)
                      · rw [if_neg c14] at H
                        exact absurd H (by simp)
                    · rw [if_neg c12] at H
                      have c12b0 : decide (0 < x17_2) = false := decide_eq_false c12
                      clear c12
                      have H' := Aside0.mk H
                      clear H
                      have p102 : 0 ≤ (x17_2 : Int) := of_decide_eq_true (by first | (with_reducible assumption) | assumption)
                      have q102 : x17_2 < (l1.length : Int) := of_decide_eq_true (by first | (with_reducible assumption) | assumption)
                      obtain ⟨ad102, e102, hx102_0, hx102_1⟩ := at_T64 HR1.out x17_2 p102 q102
                      cases e102
                      try replace hx102_0 := (HB.out.cell (World.block_lt_of_cell? w _ hx102_0)).trans hx102_0
                      try replace hx102_1 := (HB.out.cell (World.block_lt_of_cell? w _ hx102_1)).trans hx102_1
                      replace p102 := eq_true p102
                      replace q102 := eq_true q102
                      try go_wp2_with (first | ((with_reducible refine gate_dst (N := 6) rfl ?_); (try (refine gate_guard (by rfl) ?_; dsimp only)); refine box_event ?hg (N := 6) ?hd (cs := #[.int .i64 0, .int .i64 0]) (t := 64) ?hr ?_; (case hd => rfl); (case hg => rfl); (case hr => first | (go_simp; done) | (go_simp; rfl)); intro gb103 hg w30 hbox hb; have n0_ := Aside0.mk (below_step (by repeat (first | (with_reducible first | exact HB.out | apply below_alloc | apply pw_below_drewN | apply below_drew1) | exact HB.out)) hb); have n1_ := Aside0.mk (hbox); have n2_ := Aside0.mk ((by rw [hg]; exact (below_size (by repeat (first | (with_reducible first | exact HB.out | apply below_alloc | apply pw_below_drewN | apply below_drew1) | exact HB.out))) : w.heap.size ≤ gb103)); have n3_ := Aside0.mk ((by rw [hg]; exact (below_size (by repeat (first | (with_reducible first | exact HB.out | apply below_alloc | apply pw_below_drewN | apply below_drew1) | exact HB.out))) : w.heap.size ≤ gb103)); clear HB; have HB := n0_; have BK103 := n1_; have GW103 := n2_; have GE103 := n3_; clear n0_ n1_ n2_ n3_; clear hb hbox hg; have hcz31_0 : w30.cell? ⟨gb103, 0, none⟩ = some (.int .i64 0) := (blk_cell BK103.out 0).trans rfl; have hcz31_1 : w30.cell? ⟨gb103, 1, none⟩ = some (.int .i64 0) := (blk_cell BK103.out 1).trans rfl; have hfz31_0 := blk_frozen BK103.out 0; have hfz31_1 := blk_frozen BK103.out 1))
                      have n0_ : Aside0 (((w30.setCell ⟨gb103, 0, none⟩ (.int .i64 ((rd_T64 l1 x17_2).f0))).setCell ⟨gb103, 1, none⟩ (.int .i64 ((rd_T64 l1 x17_2).f1))).heap[gb103]? = some (.cells #[.int .i64 ((rd_T64 l1 x17_2).f0), .int .i64 ((rd_T64 l1 x17_2).f1)] 64 (0, 0))) := ⟨by (with_reducible repeat (first | refine blk_drewN ?_ _ | refine blk_drew ?_ | refine blk_alloc ?_ _)); refine blk_put (cs := #[.int .i64 ((rd_T64 l1 x17_2).f0), .int .i64 0]) ?_ 1 _ rfl; (with_reducible repeat (first | refine blk_drewN ?_ _ | refine blk_drew ?_ | refine blk_alloc ?_ _)); refine blk_put (cs := #[.int .i64 0, .int .i64 0]) ?_ 0 _ rfl; (with_reducible repeat (first | refine blk_drewN ?_ _ | refine blk_drew ?_ | refine blk_alloc ?_ _)); exact BK103.out⟩
                      have n1_ : Aside0 (Below w.heap.size w ((w30.setCell ⟨gb103, 0, none⟩ (.int .i64 ((rd_T64 l1 x17_2).f0))).setCell ⟨gb103, 1, none⟩ (.int .i64 ((rd_T64 l1 x17_2).f1)))) := ⟨by repeat (first | (with_reducible first | exact HB.out | apply below_alloc | apply pw_below_drewN | apply below_drew1 | refine below_set ?_ GE103.out) | exact HB.out)⟩
                      (try clear BK103)
                      (try clear HB)
                      generalize ((w30.setCell ⟨gb103, 0, none⟩ (.int .i64 ((rd_T64 l1 x17_2).f0))).setCell ⟨gb103, 1, none⟩ (.int .i64 ((rd_T64 l1 x17_2).f1))) = w32 at n0_ n1_ ⊢
                      have BK103 := n0_
                      have HB := n1_
                      clear n0_ n1_
                      have n0_ := Aside0.mk (blk_drew BK103.out)
                      have n1_ := Aside0.mk (below_drew1 HB.out)
                      clear BK103
                      clear HB
                      have BK103 := n0_
                      have HB := n1_
                      clear n0_ n1_
                      refine start_ (n := 18) (S := fun w' => w'.cell? ⟨gb103, 0, none⟩ = some (.int .i64 ((rd_T64 l1 x17_2).f0)) ∧ w'.cell? ⟨gb103, 1, none⟩ = some (.int .i64 ((rd_T64 l1 x17_2).f1))) (ds := []) #[false, false, false, false, false, false, false, false, false, false, false, false, false, false, false, false, false, false] (by kernel_rfl) rfl rfl ⟨(blk_cell BK103.out 0).trans rfl, (blk_cell BK103.out 1).trans rfl⟩ (fun hHeld => ?_); refine with_tabW spec_cdGood.tab6 spec_cdGood.bits6 (fun HT_ HW_ => ?_)
                      generalize w32.drew = w33 at BK103 HB hHeld ⊢
                      refine pure_ (i := 0) (N := some 22) (v := ?_) (a' := ?_) #[true, false, false, false, false, false, false, false, false, false, false, false, false, false, false, false, false, false] rfl rfl (any_of HT_.out (by kernel_rfl)) (fun _ _ _ h => h) (Or.inl ⟨by rfl, ?_⟩) ?_ ?_
                      rotate_left
                      · intro w'
                        go_simp
                        with_reducible rfl
                      rotate_left
                      · simp only [Act.put, List.setIfInBounds_toArray, List.set_cons_zero, List.set_cons_succ, i64_w, i32_w]
                        rfl
                      refine take_ (i := 1) (N := some 23) (v := ?_) (a' := ?_) #[true, true, false, false, false, false, false, false, false, false, false, false, false, false, false, false, false, false] rfl rfl (take_ofW HT_.out HW_.out (by kernel_rfl)) (fun _ _ _ h => h) (Or.inl ⟨by rfl, ?_⟩) hHeld ?_ ?_
                      rotate_left
                      · rintro w' ⟨s0, s1⟩
                        go_simp
                        with_reducible rfl
                      rotate_left
                      · simp only [Act.put, List.setIfInBounds_toArray, List.set_cons_zero, List.set_cons_succ, i64_w, i32_w]
                        rfl
                      refine one_ (i := 2) (N := some 24) #[true, true, true, false, false, false, false, false, false, false, false, false, false, false, false, false, false, false] rfl rfl (one_of HT_.out (by kernel_rfl)) (by decide) (fun K hK => ?_)
                      refine goes_ Try.func111 (by kernel_rfl) rfl #[.int .i64 a0, .agg #[.int .i64 ((rd_T64 l1 x17_2).f0), .int .i64 ((rd_T64 l1 x17_2).f1)]] (by rfl) rfl rfl (by (try simp only [List.map_toArray, List.map_cons, List.map_nil]); first | done | rfl | (simp only [List.length_drop, List.length_take]; rfl)) ?_
                      with_reducible refine (spec_srIs.calls a0 ((rd_T64 l1 x17_2).f0) ((rd_T64 l1 x17_2).f1) true _ A10.out).mono ?_
                      rintro e w34 ⟨rfl, hb⟩
                      refine ⟨_, rfl, ?_⟩
                      have n0_ := Aside0.mk (blk_below (g := gb103) (o := .cells #[.int .i64 ((rd_T64 l1 x17_2).f0), .int .i64 ((rd_T64 l1 x17_2).f1)] 64 (0, 0)) (by (with_reducible repeat (first | refine blk_drewN ?_ _ | refine blk_drew ?_ | refine blk_alloc ?_ _)); exact BK103.out) hb)
                      have n1_ := Aside0.mk (below_step (by repeat (first | (with_reducible first | exact HB.out | apply below_alloc | apply pw_below_drewN | apply below_drew1 | refine below_set ?_ GE103.out) | exact HB.out)) hb)
                      clear BK103
                      clear HB
                      have BK103 := n0_
                      have HB := n1_
                      clear n0_ n1_
                      (try clear hb)
                      (try clear hb2)
                      (try clear hk)
                      (try clear hi)
                      refine hK.out _ _ ⟨(blk_cell BK103.out 0).trans rfl, (blk_cell BK103.out 1).trans rfl⟩ (fun hHeld => ?_)
                      clear hK K
                      refine norm_ (a' := ?_) ?_ ?_
                      rotate_left
                      · show Act.put _ (some 24) _ = _
                        simp only [Act.put, List.setIfInBounds_toArray, List.set_cons_zero, List.set_cons_succ, i64_w, i32_w]
                        rfl
                      refine pure_ (i := 3) (N := some 25) (v := ?_) (a' := ?_) #[true, true, true, true, false, false, false, false, false, false, false, false, false, false, false, false, false, false] rfl rfl (any_of HT_.out (by kernel_rfl)) (fun _ _ _ h => h) (Or.inl ⟨by rfl, ?_⟩) ?_ ?_
                      rotate_left
                      · intro w'
                        go_simp
                        with_reducible rfl
                      rotate_left
                      · simp only [Act.put, List.setIfInBounds_toArray, List.set_cons_zero, List.set_cons_succ, i64_w, i32_w]
                        rfl
                      refine pure_ (i := 4) (N := some 26) (v := ?_) (a' := ?_) #[true, true, true, true, true, false, false, false, false, false, false, false, false, false, false, false, false, false] rfl rfl (any_of HT_.out (by kernel_rfl)) (fun _ _ _ h => h) (Or.inl ⟨by rfl, ?_⟩) ?_ ?_
                      rotate_left
                      · intro w'
                        go_simp
                        with_reducible rfl
                      rotate_left
                      · simp only [Act.put, List.setIfInBounds_toArray, List.set_cons_zero, List.set_cons_succ, i64_w, i32_w]
                        rfl
                      refine pure_ (i := 5) (N := some 27) (v := ?_) (a' := ?_) #[true, true, true, true, true, true, false, false, false, false, false, false, false, false, false, false, false, false] rfl rfl (any_of HT_.out (by kernel_rfl)) (fun _ _ _ h => h) (Or.inl ⟨by rfl, ?_⟩) ?_ ?_
                      rotate_left
                      · intro w'
                        go_simp
                        with_reducible rfl
                      rotate_left
                      · simp only [Act.put, List.setIfInBounds_toArray, List.set_cons_zero, List.set_cons_succ, i64_w, i32_w]
                        rfl
                      refine pure_ (i := 6) (N := some 28) (v := ?_) (a' := ?_) #[true, true, true, true, true, true, true, false, false, false, false, false, false, false, false, false, false, false] rfl rfl (any_of HT_.out (by kernel_rfl)) (fun _ _ _ h => h) (Or.inl ⟨by rfl, ?_⟩) ?_ ?_
                      rotate_left
                      · intro w'
                        go_simp
                        with_reducible rfl
                      rotate_left
                      · simp only [Act.put, List.setIfInBounds_toArray, List.set_cons_zero, List.set_cons_succ, i64_w, i32_w]
                        rfl
                      refine pure_ (i := 7) (N := some 29) (v := ?_) (a' := ?_) #[true, true, true, true, true, true, true, true, false, false, false, false, false, false, false, false, false, false] rfl rfl (any_of HT_.out (by kernel_rfl)) (fun _ _ _ h => h) (Or.inl ⟨by rfl, ?_⟩) ?_ ?_
                      rotate_left
                      · intro w'
                        go_simp
                        with_reducible rfl
                      rotate_left
                      · simp only [Act.put, List.setIfInBounds_toArray, List.set_cons_zero, List.set_cons_succ, i64_w, i32_w]
                        rfl
                      refine pure_ (i := 8) (N := some 30) (v := undef) (a' := ?_) #[true, true, true, true, true, true, true, true, true, false, false, false, false, false, false, false, false, false] rfl rfl (any_of HT_.out (by kernel_rfl)) (fun _ _ _ h => h) (Or.inr ⟨by rfl, rfl⟩) ?_ ?_
                      rotate_left
                      · simp only [Act.put, List.setIfInBounds_toArray, List.set_cons_zero, List.set_cons_succ, i64_w, i32_w]
                        rfl
                      refine pure_ (i := 9) (N := some 31) (v := undef) (a' := ?_) #[true, true, true, true, true, true, true, true, true, true, false, false, false, false, false, false, false, false] rfl rfl (any_of HT_.out (by kernel_rfl)) (fun _ _ _ h => h) (Or.inr ⟨by rfl, rfl⟩) ?_ ?_
                      rotate_left
                      · simp only [Act.put, List.setIfInBounds_toArray, List.set_cons_zero, List.set_cons_succ, i64_w, i32_w]
                        rfl
                      refine pure_ (i := 10) (N := some 32) (v := undef) (a' := ?_) #[true, true, true, true, true, true, true, true, true, true, true, false, false, false, false, false, false, false] rfl rfl (any_of HT_.out (by kernel_rfl)) (fun _ _ _ h => h) (Or.inr ⟨by rfl, rfl⟩) ?_ ?_
                      rotate_left
                      · simp only [Act.put, List.setIfInBounds_toArray, List.set_cons_zero, List.set_cons_succ, i64_w, i32_w]
                        rfl
                      refine pure_ (i := 11) (N := some 33) (v := undef) (a' := ?_) #[true, true, true, true, true, true, true, true, true, true, true, true, false, false, false, false, false, false] rfl rfl (any_of HT_.out (by kernel_rfl)) (fun _ _ _ h => h) (Or.inr ⟨by rfl, rfl⟩) ?_ ?_
                      rotate_left
                      · simp only [Act.put, List.setIfInBounds_toArray, List.set_cons_zero, List.set_cons_succ, i64_w, i32_w]
                        rfl
                      refine pure_ (i := 12) (N := some 34) (v := undef) (a' := ?_) #[true, true, true, true, true, true, true, true, true, true, true, true, true, false, false, false, false, false] rfl rfl (any_of HT_.out (by kernel_rfl)) (fun _ _ _ h => h) (Or.inr ⟨by rfl, rfl⟩) ?_ ?_
                      rotate_left
                      · simp only [Act.put, List.setIfInBounds_toArray, List.set_cons_zero, List.set_cons_succ, i64_w, i32_w]
                        rfl
                      refine pure_ (i := 13) (N := some 35) (v := undef) (a' := ?_) #[true, true, true, true, true, true, true, true, true, true, true, true, true, true, false, false, false, false] rfl rfl (any_of HT_.out (by kernel_rfl)) (fun _ _ _ h => h) (Or.inr ⟨by rfl, rfl⟩) ?_ ?_
                      rotate_left
                      · simp only [Act.put, List.setIfInBounds_toArray, List.set_cons_zero, List.set_cons_succ, i64_w, i32_w]
                        rfl
                      refine pure_ (i := 14) (N := some 36) (v := undef) (a' := ?_) #[true, true, true, true, true, true, true, true, true, true, true, true, true, true, true, false, false, false] rfl rfl (any_of HT_.out (by kernel_rfl)) (fun _ _ _ h => h) (Or.inr ⟨by rfl, rfl⟩) ?_ ?_
                      rotate_left
                      · simp only [Act.put, List.setIfInBounds_toArray, List.set_cons_zero, List.set_cons_succ, i64_w, i32_w]
                        rfl
                      refine pure_ (i := 15) (N := some 37) (v := undef) (a' := ?_) #[true, true, true, true, true, true, true, true, true, true, true, true, true, true, true, true, false, false] rfl rfl (any_of HT_.out (by kernel_rfl)) (fun _ _ _ h => h) (Or.inr ⟨by rfl, rfl⟩) ?_ ?_
                      rotate_left
                      · simp only [Act.put, List.setIfInBounds_toArray, List.set_cons_zero, List.set_cons_succ, i64_w, i32_w]
                        rfl
                      refine pure_ (i := 16) (N := some 38) (v := ?_) (a' := ?_) #[true, true, true, true, true, true, true, true, true, true, true, true, true, true, true, true, true, false] rfl rfl (any_of HT_.out (by kernel_rfl)) (fun _ _ _ h => h) (Or.inl ⟨by rfl, ?_⟩) ?_ ?_
                      rotate_left
                      · intro w'
                        go_simp
                        with_reducible rfl
                      rotate_left
                      · simp only [Act.put, List.setIfInBounds_toArray, List.set_cons_zero, List.set_cons_succ, i64_w, i32_w]
                        rfl
                      refine pure_ (i := 17) (N := some 39) (v := ?_) (a' := ?_) #[true, true, true, true, true, true, true, true, true, true, true, true, true, true, true, true, true, true] rfl rfl (any_of HT_.out (by kernel_rfl)) (fun _ _ _ h => h) (Or.inl ⟨by rfl, ?_⟩) ?_ ?_
                      rotate_left
                      · intro w'
                        go_simp
                        with_reducible rfl
                      rotate_left
                      · simp only [Act.put, List.setIfInBounds_toArray, List.set_cons_zero, List.set_cons_succ, i64_w, i32_w]
                        rfl
                      refine done_ (done_of HT_.out (by kernel_rfl)) ?_
                      try go_wp2
                      go_roundg k2
                      case measure => have := HJ2.out; have := HK2.out; omega
                      case rel => exact ⟨(wrap64 (x17_2 + 1)), (by first | rfl | (simp; done) | (simp [*]; done)), H', ⟨by have := HJ2.out; have := HK2.out; omega⟩, ⟨by repeat (first | (with_reducible first | exact HB.out | apply below_alloc | apply pw_below_drewN | apply below_drew1 | refine below_set ?_ GE103.out) | exact HB.out)⟩⟩
                  · replace c11 := Bool.eq_false_iff.mpr c11
                    subst c11
                    have H1 : (some false) = some r := by rw [if_neg (show ¬ (false = true) by decide)] at H; exact H
                    clear H
                    have H := H1
                    clear H1
                    obtain rfl := Option.some.inj H
                    have p102 : 0 ≤ (x17_2 : Int) := of_decide_eq_true (by first | (with_reducible assumption) | assumption)
                    have q102 : x17_2 < (l1.length : Int) := of_decide_eq_true (by first | (with_reducible assumption) | assumption)
                    obtain ⟨ad102, e102, hx102_0, hx102_1⟩ := at_T64 HR1.out x17_2 p102 q102
                    cases e102
                    try replace hx102_0 := (HB.out.cell (World.block_lt_of_cell? w _ hx102_0)).trans hx102_0
                    try replace hx102_1 := (HB.out.cell (World.block_lt_of_cell? w _ hx102_1)).trans hx102_1
                    replace p102 := eq_true p102
                    replace q102 := eq_true q102
                    try go_wp2_with (first | ((with_reducible refine gate_dst (N := 6) rfl ?_); (try (refine gate_guard (by rfl) ?_; dsimp only)); refine box_event ?hg (N := 6) ?hd (cs := #[.int .i64 0, .int .i64 0]) (t := 64) ?hr ?_; (case hd => rfl); (case hg => rfl); (case hr => first | (go_simp; done) | (go_simp; rfl)); intro gb103 hg w35 hbox hb; have n0_ := Aside0.mk (below_step (by repeat (first | (with_reducible first | exact HB.out | apply below_alloc | apply pw_below_drewN | apply below_drew1) | exact HB.out)) hb); have n1_ := Aside0.mk (hbox); have n2_ := Aside0.mk ((by rw [hg]; exact (below_size (by repeat (first | (with_reducible first | exact HB.out | apply below_alloc | apply pw_below_drewN | apply below_drew1) | exact HB.out))) : w.heap.size ≤ gb103)); have n3_ := Aside0.mk ((by rw [hg]; exact (below_size (by repeat (first | (with_reducible first | exact HB.out | apply below_alloc | apply pw_below_drewN | apply below_drew1) | exact HB.out))) : w.heap.size ≤ gb103)); clear HB; have HB := n0_; have BK103 := n1_; have GW103 := n2_; have GE103 := n3_; clear n0_ n1_ n2_ n3_; clear hb hbox hg; have hcz36_0 : w35.cell? ⟨gb103, 0, none⟩ = some (.int .i64 0) := (blk_cell BK103.out 0).trans rfl; have hcz36_1 : w35.cell? ⟨gb103, 1, none⟩ = some (.int .i64 0) := (blk_cell BK103.out 1).trans rfl; have hfz36_0 := blk_frozen BK103.out 0; have hfz36_1 := blk_frozen BK103.out 1))
                    have n0_ : Aside0 (((w35.setCell ⟨gb103, 0, none⟩ (.int .i64 ((rd_T64 l1 x17_2).f0))).setCell ⟨gb103, 1, none⟩ (.int .i64 ((rd_T64 l1 x17_2).f1))).heap[gb103]? = some (.cells #[.int .i64 ((rd_T64 l1 x17_2).f0), .int .i64 ((rd_T64 l1 x17_2).f1)] 64 (0, 0))) := ⟨by (with_reducible repeat (first | refine blk_drewN ?_ _ | refine blk_drew ?_ | refine blk_alloc ?_ _)); refine blk_put (cs := #[.int .i64 ((rd_T64 l1 x17_2).f0), .int .i64 0]) ?_ 1 _ rfl; (with_reducible repeat (first | refine blk_drewN ?_ _ | refine blk_drew ?_ | refine blk_alloc ?_ _)); refine blk_put (cs := #[.int .i64 0, .int .i64 0]) ?_ 0 _ rfl; (with_reducible repeat (first | refine blk_drewN ?_ _ | refine blk_drew ?_ | refine blk_alloc ?_ _)); exact BK103.out⟩
                    have n1_ : Aside0 (Below w.heap.size w ((w35.setCell ⟨gb103, 0, none⟩ (.int .i64 ((rd_T64 l1 x17_2).f0))).setCell ⟨gb103, 1, none⟩ (.int .i64 ((rd_T64 l1 x17_2).f1)))) := ⟨by repeat (first | (with_reducible first | exact HB.out | apply below_alloc | apply pw_below_drewN | apply below_drew1 | refine below_set ?_ GE103.out) | exact HB.out)⟩
                    (try clear BK103)
                    (try clear HB)
                    generalize ((w35.setCell ⟨gb103, 0, none⟩ (.int .i64 ((rd_T64 l1 x17_2).f0))).setCell ⟨gb103, 1, none⟩ (.int .i64 ((rd_T64 l1 x17_2).f1))) = w37 at n0_ n1_ ⊢
                    have BK103 := n0_
                    have HB := n1_
                    clear n0_ n1_
                    have n0_ := Aside0.mk (blk_drew BK103.out)
                    have n1_ := Aside0.mk (below_drew1 HB.out)
                    clear BK103
                    clear HB
                    have BK103 := n0_
                    have HB := n1_
                    clear n0_ n1_
                    refine start_ (n := 18) (S := fun w' => w'.cell? ⟨gb103, 0, none⟩ = some (.int .i64 ((rd_T64 l1 x17_2).f0)) ∧ w'.cell? ⟨gb103, 1, none⟩ = some (.int .i64 ((rd_T64 l1 x17_2).f1))) (ds := []) #[false, false, false, false, false, false, false, false, false, false, false, false, false, false, false, false, false, false] (by kernel_rfl) rfl rfl ⟨(blk_cell BK103.out 0).trans rfl, (blk_cell BK103.out 1).trans rfl⟩ (fun hHeld => ?_); refine with_tabW spec_cdGood.tab6 spec_cdGood.bits6 (fun HT_ HW_ => ?_)
                    generalize w37.drew = w38 at BK103 HB hHeld ⊢
                    refine pure_ (i := 0) (N := some 22) (v := ?_) (a' := ?_) #[true, false, false, false, false, false, false, false, false, false, false, false, false, false, false, false, false, false] rfl rfl (any_of HT_.out (by kernel_rfl)) (fun _ _ _ h => h) (Or.inl ⟨by rfl, ?_⟩) ?_ ?_
                    rotate_left
                    · intro w'
                      go_simp
                      with_reducible rfl
                    rotate_left
                    · simp only [Act.put, List.setIfInBounds_toArray, List.set_cons_zero, List.set_cons_succ, i64_w, i32_w]
                      rfl
                    refine take_ (i := 1) (N := some 23) (v := ?_) (a' := ?_) #[true, true, false, false, false, false, false, false, false, false, false, false, false, false, false, false, false, false] rfl rfl (take_ofW HT_.out HW_.out (by kernel_rfl)) (fun _ _ _ h => h) (Or.inl ⟨by rfl, ?_⟩) hHeld ?_ ?_
                    rotate_left
                    · rintro w' ⟨s0, s1⟩
                      go_simp
                      with_reducible rfl
                    rotate_left
                    · simp only [Act.put, List.setIfInBounds_toArray, List.set_cons_zero, List.set_cons_succ, i64_w, i32_w]
                      rfl
                    refine one_ (i := 2) (N := some 24) #[true, true, true, false, false, false, false, false, false, false, false, false, false, false, false, false, false, false] rfl rfl (one_of HT_.out (by kernel_rfl)) (by decide) (fun K hK => ?_)
                    refine goes_ Try.func111 (by kernel_rfl) rfl #[.int .i64 a0, .agg #[.int .i64 ((rd_T64 l1 x17_2).f0), .int .i64 ((rd_T64 l1 x17_2).f1)]] (by rfl) rfl rfl (by (try simp only [List.map_toArray, List.map_cons, List.map_nil]); first | done | rfl | (simp only [List.length_drop, List.length_take]; rfl)) ?_
                    with_reducible refine (spec_srIs.calls a0 ((rd_T64 l1 x17_2).f0) ((rd_T64 l1 x17_2).f1) false _ A10.out).mono ?_
                    rintro e w39 ⟨rfl, hb⟩
                    refine ⟨_, rfl, ?_⟩
                    have n0_ := Aside0.mk (blk_below (g := gb103) (o := .cells #[.int .i64 ((rd_T64 l1 x17_2).f0), .int .i64 ((rd_T64 l1 x17_2).f1)] 64 (0, 0)) (by (with_reducible repeat (first | refine blk_drewN ?_ _ | refine blk_drew ?_ | refine blk_alloc ?_ _)); exact BK103.out) hb)
                    have n1_ := Aside0.mk (below_step (by repeat (first | (with_reducible first | exact HB.out | apply below_alloc | apply pw_below_drewN | apply below_drew1 | refine below_set ?_ GE103.out) | exact HB.out)) hb)
                    clear BK103
                    clear HB
                    have BK103 := n0_
                    have HB := n1_
                    clear n0_ n1_
                    (try clear hb)
                    (try clear hb2)
                    (try clear hk)
                    (try clear hi)
                    refine hK.out _ _ ⟨(blk_cell BK103.out 0).trans rfl, (blk_cell BK103.out 1).trans rfl⟩ (fun hHeld => ?_)
                    clear hK K
                    refine norm_ (a' := ?_) ?_ ?_
                    rotate_left
                    · show Act.put _ (some 24) _ = _
                      simp only [Act.put, List.setIfInBounds_toArray, List.set_cons_zero, List.set_cons_succ, i64_w, i32_w]
                      rfl
                    refine pure_ (i := 3) (N := some 25) (v := ?_) (a' := ?_) #[true, true, true, true, false, false, false, false, false, false, false, false, false, false, false, false, false, false] rfl rfl (any_of HT_.out (by kernel_rfl)) (fun _ _ _ h => h) (Or.inl ⟨by rfl, ?_⟩) ?_ ?_
                    rotate_left
                    · intro w'
                      go_simp
                      with_reducible rfl
                    rotate_left
                    · simp only [Act.put, List.setIfInBounds_toArray, List.set_cons_zero, List.set_cons_succ, i64_w, i32_w]
                      rfl
                    refine pure_ (i := 4) (N := some 26) (v := ?_) (a' := ?_) #[true, true, true, true, true, false, false, false, false, false, false, false, false, false, false, false, false, false] rfl rfl (any_of HT_.out (by kernel_rfl)) (fun _ _ _ h => h) (Or.inl ⟨by rfl, ?_⟩) ?_ ?_
                    rotate_left
                    · intro w'
                      go_simp
                      with_reducible rfl
                    rotate_left
                    · simp only [Act.put, List.setIfInBounds_toArray, List.set_cons_zero, List.set_cons_succ, i64_w, i32_w]
                      rfl
                    refine pure_ (i := 5) (N := some 27) (v := undef) (a' := ?_) #[true, true, true, true, true, true, false, false, false, false, false, false, false, false, false, false, false, false] rfl rfl (any_of HT_.out (by kernel_rfl)) (fun _ _ _ h => h) (Or.inr ⟨by rfl, rfl⟩) ?_ ?_
                    rotate_left
                    · simp only [Act.put, List.setIfInBounds_toArray, List.set_cons_zero, List.set_cons_succ, i64_w, i32_w]
                      rfl
                    refine pure_ (i := 6) (N := some 28) (v := undef) (a' := ?_) #[true, true, true, true, true, true, true, false, false, false, false, false, false, false, false, false, false, false] rfl rfl (any_of HT_.out (by kernel_rfl)) (fun _ _ _ h => h) (Or.inr ⟨by rfl, rfl⟩) ?_ ?_
                    rotate_left
                    · simp only [Act.put, List.setIfInBounds_toArray, List.set_cons_zero, List.set_cons_succ, i64_w, i32_w]
                      rfl
                    refine pure_ (i := 7) (N := some 29) (v := undef) (a' := ?_) #[true, true, true, true, true, true, true, true, false, false, false, false, false, false, false, false, false, false] rfl rfl (any_of HT_.out (by kernel_rfl)) (fun _ _ _ h => h) (Or.inr ⟨by rfl, rfl⟩) ?_ ?_
                    rotate_left
                    · simp only [Act.put, List.setIfInBounds_toArray, List.set_cons_zero, List.set_cons_succ, i64_w, i32_w]
                      rfl
                    refine pure_ (i := 8) (N := some 30) (v := undef) (a' := ?_) #[true, true, true, true, true, true, true, true, true, false, false, false, false, false, false, false, false, false] rfl rfl (any_of HT_.out (by kernel_rfl)) (fun _ _ _ h => h) (Or.inr ⟨by rfl, rfl⟩) ?_ ?_
                    rotate_left
                    · simp only [Act.put, List.setIfInBounds_toArray, List.set_cons_zero, List.set_cons_succ, i64_w, i32_w]
                      rfl
                    refine pure_ (i := 9) (N := some 31) (v := undef) (a' := ?_) #[true, true, true, true, true, true, true, true, true, true, false, false, false, false, false, false, false, false] rfl rfl (any_of HT_.out (by kernel_rfl)) (fun _ _ _ h => h) (Or.inr ⟨by rfl, rfl⟩) ?_ ?_
                    rotate_left
                    · simp only [Act.put, List.setIfInBounds_toArray, List.set_cons_zero, List.set_cons_succ, i64_w, i32_w]
                      rfl
                    refine pure_ (i := 10) (N := some 32) (v := undef) (a' := ?_) #[true, true, true, true, true, true, true, true, true, true, true, false, false, false, false, false, false, false] rfl rfl (any_of HT_.out (by kernel_rfl)) (fun _ _ _ h => h) (Or.inr ⟨by rfl, rfl⟩) ?_ ?_
                    rotate_left
                    · simp only [Act.put, List.setIfInBounds_toArray, List.set_cons_zero, List.set_cons_succ, i64_w, i32_w]
                      rfl
                    refine pure_ (i := 11) (N := some 33) (v := undef) (a' := ?_) #[true, true, true, true, true, true, true, true, true, true, true, true, false, false, false, false, false, false] rfl rfl (any_of HT_.out (by kernel_rfl)) (fun _ _ _ h => h) (Or.inr ⟨by rfl, rfl⟩) ?_ ?_
                    rotate_left
                    · simp only [Act.put, List.setIfInBounds_toArray, List.set_cons_zero, List.set_cons_succ, i64_w, i32_w]
                      rfl
                    refine pure_ (i := 12) (N := some 34) (v := undef) (a' := ?_) #[true, true, true, true, true, true, true, true, true, true, true, true, true, false, false, false, false, false] rfl rfl (any_of HT_.out (by kernel_rfl)) (fun _ _ _ h => h) (Or.inr ⟨by rfl, rfl⟩) ?_ ?_
                    rotate_left
                    · simp only [Act.put, List.setIfInBounds_toArray, List.set_cons_zero, List.set_cons_succ, i64_w, i32_w]
                      rfl
                    refine pure_ (i := 13) (N := some 35) (v := undef) (a' := ?_) #[true, true, true, true, true, true, true, true, true, true, true, true, true, true, false, false, false, false] rfl rfl (any_of HT_.out (by kernel_rfl)) (fun _ _ _ h => h) (Or.inr ⟨by rfl, rfl⟩) ?_ ?_
                    rotate_left
                    · simp only [Act.put, List.setIfInBounds_toArray, List.set_cons_zero, List.set_cons_succ, i64_w, i32_w]
                      rfl
                    refine pure_ (i := 14) (N := some 36) (v := undef) (a' := ?_) #[true, true, true, true, true, true, true, true, true, true, true, true, true, true, true, false, false, false] rfl rfl (any_of HT_.out (by kernel_rfl)) (fun _ _ _ h => h) (Or.inr ⟨by rfl, rfl⟩) ?_ ?_
                    rotate_left
                    · simp only [Act.put, List.setIfInBounds_toArray, List.set_cons_zero, List.set_cons_succ, i64_w, i32_w]
                      rfl
                    refine pure_ (i := 15) (N := some 37) (v := undef) (a' := ?_) #[true, true, true, true, true, true, true, true, true, true, true, true, true, true, true, true, false, false] rfl rfl (any_of HT_.out (by kernel_rfl)) (fun _ _ _ h => h) (Or.inr ⟨by rfl, rfl⟩) ?_ ?_
                    rotate_left
                    · simp only [Act.put, List.setIfInBounds_toArray, List.set_cons_zero, List.set_cons_succ, i64_w, i32_w]
                      rfl
                    refine pure_ (i := 16) (N := some 38) (v := undef) (a' := ?_) #[true, true, true, true, true, true, true, true, true, true, true, true, true, true, true, true, true, false] rfl rfl (any_of HT_.out (by kernel_rfl)) (fun _ _ _ h => h) (Or.inr ⟨by rfl, rfl⟩) ?_ ?_
                    rotate_left
                    · simp only [Act.put, List.setIfInBounds_toArray, List.set_cons_zero, List.set_cons_succ, i64_w, i32_w]
                      rfl
                    refine pure_ (i := 17) (N := some 39) (v := ?_) (a' := ?_) #[true, true, true, true, true, true, true, true, true, true, true, true, true, true, true, true, true, true] rfl rfl (any_of HT_.out (by kernel_rfl)) (fun _ _ _ h => h) (Or.inl ⟨by rfl, ?_⟩) ?_ ?_
                    rotate_left
                    · intro w'
                      go_simp
                      with_reducible rfl
                    rotate_left
                    · simp only [Act.put, List.setIfInBounds_toArray, List.set_cons_zero, List.set_cons_succ, i64_w, i32_w]
                      rfl
                    refine done_ (done_of HT_.out (by kernel_rfl)) ?_
                    try go_wp2
                    go_ret
                    exact ⟨by first | rfl | (simp [errW_none, errW_some] <;> rfl) | (simp [*, errW_none, errW_some] <;> rfl), by repeat (first | (with_reducible first | exact HB.out | apply below_alloc | apply pw_below_drewN | apply below_drew1 | refine below_set ?_ GE103.out) | exact HB.out)⟩
                · rw [if_neg c9] at H
                  exact absurd H (by simp)
              · rw [if_neg c8] at H
                exact absurd H (by simp)
            · rw [if_neg c7] at H
              have c7b0 : decide (x17_2 < (l1.length : Int)) = false := decide_eq_false c7
              clear c7
              obtain rfl := Option.some.inj H
              go_wp2
              go_ret
              exact ⟨by first | rfl | (simp [errW_none, errW_some] <;> rfl) | (simp [*, errW_none, errW_some] <;> rfl), by repeat (first | (with_reducible first | exact HB.out | apply below_alloc | apply pw_below_drewN | apply below_drew1) | exact HB.out)⟩
end Go.Proofs.Yteeghncofacmhaa.Q
end
section
namespace Go.Proofs.Yteeghncofacmhaa.Q
open Go.RowKit Go.Proofs.YteeghncofacmhaaW.PrintWords Go.Proofs.YteeghncofacmhaaW.PrintLast Go.Proofs.YteeghncofacmhaaW.PrintMore
attribute [local go_sem] max2_int min2_int max_two min_two max_three min_three max_four min_four   -- for this text's walks alone
set_option linter.unusedVariables false
set_option linter.unusedSimpArgs false
/-! ### spec_cdPairs: function 92 -/
mutual
def spec_cdPairs.l0 : Nat → List (S64) → List (List Int) → List (S64) → Int → Int → Option ((List (List Int)))
  | 0, _, _, _, _, _ => none
  | k + 1, x0, x3, x7, x8, x9 => if x9 < x8 then (if 0 ≤ x9 then (if x9 < (x7.length : Int) then (spec_cdPairs.l1 k x0 x3 x9 (wrap64 (x9 + 1)) x7 x8 x9 ((rd_T64 x7 x9).f0) ((rd_T64 x7 x9).f1)) else (none)) else (none)) else (some x3)
def spec_cdPairs.l1 : Nat → List (S64) → List (List Int) → Int → Int → List (S64) → Int → Int → Int → Int → Option ((List (List Int)))
  | 0, _, _, _, _, _, _, _, _, _ => none
  | k + 1, x0, x3, x4, x6, x7, x8, x9, x103000, x103001 => if x6 < (x0.length : Int) then (if 0 ≤ x6 then ((spec_srCross.f x103000 x103001 ((rd_T64 x0 x6).f0) ((rd_T64 x0 x6).f1)).bind fun t104 => (if t104 = true then (if x3.length < 5864062014805 then (spec_cdPairs.l1 k x0 (x3 ++ [(([x4, x6] : List Int))]) x4 (wrap64 (x6 + 1)) x7 x8 x9 x103000 x103001) else (none)) else (spec_cdPairs.l1 k x0 x3 x4 (wrap64 (x6 + 1)) x7 x8 x9 x103000 x103001))) else (none)) else (spec_cdPairs.l0 k x0 x3 x7 x8 (wrap64 (x9 + 1)))
end
def spec_cdPairs.f (k : Nat) (l0 : List (S64)) : Option ((List (List Int))) := spec_cdPairs.l0 k l0 ([] : List (List Int)) l0 (l0.length : Int) 0
set_option maxHeartbeats 8000000 in
set_option maxRecDepth 100000 in
theorem spec_cdPairs.calls (k : Nat) (A0 : Option Addr) (c0 : Nat) (l0 : List (S64)) (r : List (List Int)) (w : World) (hr0 : Kd.C k64 w A0 l0.length l0) (hc0 : l0.length ≤ c0) (h : spec_cdPairs.f k l0 = some r) :
    Calls Try.prog 92 #[.slice A0 l0.length c0] w fun e w' => ∃ v0_ : Value, e = .returned (v0_) ∧ Kd.S (Kd.slice 3 (Kd.int .i64)) 24 w' w.heap.size (fun _ => True) v0_ r ∧ Below w.heap.size w w' := by
  have hu64 := Try.underlying64
  have HR0 := Aside0.mk hr0
  have HC0 := Aside0.mk hc0
  clear hr0 hc0
  have HB := Aside0.mk (Below.refl w.heap.size w)
  have H : (spec_cdPairs.l0 k l0 ([] : List (List Int)) l0 (l0.length : Int) 0) = some r := h
  clear h
  have H' := Aside0.mk H
  clear H
  go_enter Try.func92, Try.ntmps92
  go_wp2
  go_loopg [3, 9] k (fun kq v3 v9 w' => ∃ (x3_1 : List (List Int)) (x9_1 : Int), v9 = .int .i64 x9_1 ∧ Aside0 (spec_cdPairs.l0 kq l0 x3_1 l0 (l0.length : Int) x9_1 = some r) ∧ Aside0 (kq ≤ k) ∧ Aside0 (Kd.S (Kd.slice 3 (Kd.int .i64)) 24 w' w.heap.size (fun _ => True) v3 x3_1) ∧ Aside0 (Below w.heap.size w w'))
  case atStart => exact ⟨(([] : List (List Int))), (0), (by first | rfl | (simp; done) | (simp [*]; done)), H', ⟨Nat.le_refl _⟩, ⟨by first | exact Kd.S_nil _ _ _ _ _ | exact Kd.N_nil _ _ _ _ _ | exact Kd.V_nil _ _ _ _ _ | exact Kd.Q_nil _ _ _ _ _ | exact Kd.R_nil _ _ _ _ _⟩, ⟨by repeat (first | (with_reducible first | exact HB.out | apply below_alloc | apply pw_below_drewN | apply below_drew1) | exact HB.out)⟩⟩
  case round =>
    clear H'
    obtain ⟨x3_1, x9_1, rfl, HA, HK1, HO_3, HB⟩ := hrel
    cases gk with
    | zero => exact absurd HA.out (by simp [spec_cdPairs.l0])
    | succ k1 =>
      have H := HA.out
      clear HA
      simp only [spec_cdPairs.l0] at H
      by_cases c2 : x9_1 < (l0.length : Int)
      · rw [if_pos c2] at H
        have c2b0 : decide (x9_1 < (l0.length : Int)) = true := decide_eq_true c2
        clear c2
        by_cases c3 : 0 ≤ x9_1
        · rw [if_pos c3] at H
          have c3b0 : decide (0 ≤ x9_1) = true := decide_eq_true c3
          clear c3
          by_cases c4 : x9_1 < (l0.length : Int)
          · rw [if_pos c4] at H
            have c4b0 : decide (x9_1 < (l0.length : Int)) = true := decide_eq_true c4
            clear c4
            have H' := Aside0.mk H
            clear H
            have p101 : 0 ≤ (x9_1 : Int) := of_decide_eq_true (by first | (with_reducible assumption) | assumption)
            have q101 : x9_1 < (l0.length : Int) := of_decide_eq_true (by first | (with_reducible assumption) | assumption)
            obtain ⟨ad101, e101, hx101_0, hx101_1⟩ := at_T64 HR0.out x9_1 p101 q101
            cases e101
            try replace hx101_0 := (HB.out.cell (World.block_lt_of_cell? w _ hx101_0)).trans hx101_0
            try replace hx101_1 := (HB.out.cell (World.block_lt_of_cell? w _ hx101_1)).trans hx101_1
            replace p101 := eq_true p101
            replace q101 := eq_true q101
            go_wp2_with (first | ((with_reducible refine gate_dst (N := 5) rfl ?_); refine box_event ?hg (N := 5) ?hd (cs := #[.int .i64 0, .int .i64 0]) (t := 64) ?hr ?_; (case hd => rfl); (case hg => rfl); (case hr => first | (go_simp; done) | (go_simp; rfl)); intro gb102 hg w5 hbox hb; have n0_ := Aside0.mk (Kd.S_below (by (with_reducible repeat (first | apply Kd.S_alloc | apply Kd.S_drewN | apply Kd.S_drew)); exact HO_3.out) hb); have n1_ := Aside0.mk (below_step (by repeat (first | (with_reducible first | exact HB.out | apply below_alloc | apply pw_below_drewN | apply below_drew1) | exact HB.out)) hb); have n2_ := Aside0.mk (hbox); have n3_ := Aside0.mk ((by rw [hg]; exact (below_size (by repeat (first | (with_reducible first | exact HB.out | apply below_alloc | apply pw_below_drewN | apply below_drew1) | exact HB.out))) : w.heap.size ≤ gb102)); have n4_ := Aside0.mk ((by rw [hg]; exact (below_size (by repeat (first | (with_reducible first | exact HB.out | apply below_alloc | apply pw_below_drewN | apply below_drew1) | exact HB.out))) : w.heap.size ≤ gb102)); clear HO_3; clear HB; have HO_3 := n0_; have HB := n1_; have BK102 := n2_; have GW102 := n3_; have GE102 := n4_; clear n0_ n1_ n2_ n3_ n4_; clear hb hbox hg; have hcz6_0 : w5.cell? ⟨gb102, 0, none⟩ = some (.int .i64 0) := (blk_cell BK102.out 0).trans rfl; have hcz6_1 : w5.cell? ⟨gb102, 1, none⟩ = some (.int .i64 0) := (blk_cell BK102.out 1).trans rfl; have hfz6_0 := blk_frozen BK102.out 0; have hfz6_1 := blk_frozen BK102.out 1))
            go_loopg [3, 6] k1 (fun kq v3 v6 w' => ∃ (x3_2 : List (List Int)) (x6_2 : Int), v6 = .int .i64 x6_2 ∧ Aside0 (spec_cdPairs.l1 kq l0 x3_2 x9_1 x6_2 l0 (l0.length : Int) x9_1 ((rd_T64 l0 x9_1).f0) ((rd_T64 l0 x9_1).f1) = some r) ∧ Aside0 (kq ≤ k1) ∧ Aside0 (Kd.S (Kd.slice 3 (Kd.int .i64)) 24 w' w.heap.size (fun _ => True) v3 x3_2) ∧ Aside0 (w'.heap[gb102]? = some (.cells #[.int .i64 ((rd_T64 l0 x9_1).f0), .int .i64 ((rd_T64 l0 x9_1).f1)] 64 (0, 0))) ∧ Aside0 (Below w.heap.size w w'))
            case atStart => exact ⟨(x3_1), (wrap64 (x9_1 + 1)), (by first | rfl | (simp; done) | (simp [*]; done)), H', ⟨Nat.le_refl _⟩, ⟨by (with_reducible repeat (first | apply Kd.S_alloc | apply Kd.S_drewN | apply Kd.S_drew)); exact Kd.S_mono (Kd.S_far (p := ⟨gb102, 1, none⟩) (Kd.S_far (p := ⟨gb102, 0, none⟩) (Kd.S_types HO_3.out BK102.out (by decide)) (fun _ hk => hk.2) (.int .i64 ((rd_T64 l0 x9_1).f0))) (fun _ hk => hk.2) (.int .i64 ((rd_T64 l0 x9_1).f1))) (fun _ hk => trivial)⟩, ⟨by (with_reducible repeat (first | refine blk_drewN ?_ _ | refine blk_drew ?_ | refine blk_alloc ?_ _)); refine blk_put (cs := #[.int .i64 ((rd_T64 l0 x9_1).f0), .int .i64 0]) ?_ 1 _ rfl; (with_reducible repeat (first | refine blk_drewN ?_ _ | refine blk_drew ?_ | refine blk_alloc ?_ _)); refine blk_put (cs := #[.int .i64 0, .int .i64 0]) ?_ 0 _ rfl; (with_reducible repeat (first | refine blk_drewN ?_ _ | refine blk_drew ?_ | refine blk_alloc ?_ _)); exact BK102.out⟩, ⟨by repeat (first | (with_reducible first | exact HB.out | apply below_alloc | apply pw_below_drewN | apply below_drew1 | refine below_set ?_ GE102.out) | exact HB.out)⟩⟩
            case round =>
              clear H'
              try clear p1
              try clear q1
              try clear hx1
              try clear c2
              try clear c2b0
              try clear p2
              try clear c3
              try clear c3b0
              try clear c4
              try clear c4b0
              try clear p6
              try clear hcz6_0
              try clear hcz6_1
              try clear hfz6_0
              try clear hfz6_1
              try clear hx101_0
              try clear hx101_1
              try clear p101
              try clear q101
              obtain ⟨x3_2, x6_2, rfl, HA, HK2, HO_3, BK102, HB⟩ := hrel
              cases gk with
              | zero => exact absurd HA.out (by simp [spec_cdPairs.l1])
              | succ k2 =>
                have H := HA.out
                clear HA
                simp only [spec_cdPairs.l1] at H
                by_cases c7 : x6_2 < (l0.length : Int)
                · rw [if_pos c7] at H
                  have c7b0 : decide (x6_2 < (l0.length : Int)) = true := decide_eq_true c7
                  clear c7
                  by_cases c8 : 0 ≤ x6_2
                  · rw [if_pos c8] at H
                    have c8b0 : decide (0 ≤ x6_2) = true := decide_eq_true c8
                    clear c8
                    replace H := Option.bind_eq_some_iff.mp H
                    obtain ⟨t104, A90, H⟩ := H
                    replace H : (if t104 = true then (if x3_2.length < 5864062014805 then (spec_cdPairs.l1 k2 l0 (x3_2 ++ [(([x9_1, x6_2] : List Int))]) x9_1 (wrap64 (x6_2 + 1)) l0 (l0.length : Int) x9_1 ((rd_T64 l0 x9_1).f0) ((rd_T64 l0 x9_1).f1)) else (none)) else (spec_cdPairs.l1 k2 l0 x3_2 x9_1 (wrap64 (x6_2 + 1)) l0 (l0.length : Int) x9_1 ((rd_T64 l0 x9_1).f0) ((rd_T64 l0 x9_1).f1))) = some r := H
                    have A9 := Aside0.mk A90
                    clear A90
                    by_cases c10 : t104 = true
                    · subst c10
                      have H1 : (if x3_2.length < 5864062014805 then (spec_cdPairs.l1 k2 l0 (x3_2 ++ [(([x9_1, x6_2] : List Int))]) x9_1 (wrap64 (x6_2 + 1)) l0 (l0.length : Int) x9_1 ((rd_T64 l0 x9_1).f0) ((rd_T64 l0 x9_1).f1)) else (none)) = some r := by rw [if_pos rfl] at H; exact H
                      clear H
                      have H := H1
                      clear H1
                      obtain ⟨y105, hy105⟩ : ∃ y_ : List Int, y_ = (([x9_1, x6_2] : List Int)) := ⟨_, rfl⟩
                      replace H : (if x3_2.length < 5864062014805 then (spec_cdPairs.l1 k2 l0 (x3_2 ++ [y105]) x9_1 (wrap64 (x6_2 + 1)) l0 (l0.length : Int) x9_1 ((rd_T64 l0 x9_1).f0) ((rd_T64 l0 x9_1).f1)) else (none)) = some r := by first | (rw [hy105]; with_reducible exact H) | (have H2_ := (Option.bind_some _ _).symm.trans H; rw [hy105]; with_reducible exact H2_) | (have H2_ := (Option.bind_some _ _).symm.trans H; with_reducible exact H2_) | with_reducible exact H | (rw [hy105]; exact H) | exact H
                      have Ny105 := Aside0.mk hy105
                      clear hy105
                      by_cases c11 : x3_2.length < 5864062014805
                      · rw [if_pos c11] at H
                        have LMc11 := Aside0.mk c11
                        clear c11
                        obtain ⟨y108, hy108⟩ : ∃ y_ : List (List Int), y_ = (x3_2 ++ [y105]) := ⟨_, rfl⟩
                        replace H : (spec_cdPairs.l1 k2 l0 y108 x9_1 (wrap64 (x6_2 + 1)) l0 (l0.length : Int) x9_1 ((rd_T64 l0 x9_1).f0) ((rd_T64 l0 x9_1).f1)) = some r := by first | (rw [hy108]; with_reducible exact H) | (have H2_ := (Option.bind_some _ _).symm.trans H; rw [hy108]; with_reducible exact H2_) | (have H2_ := (Option.bind_some _ _).symm.trans H; with_reducible exact H2_) | with_reducible exact H | (rw [hy108]; exact H) | exact H
                        have Ny108 := Aside0.mk hy108
                        clear hy108
                        have H' := Aside0.mk H
                        clear H
                        try go_wp2
                        have n0_ := Aside0.mk (Kd.S_drew HO_3.out)
                        have n1_ := Aside0.mk (blk_drew BK102.out)
                        have n2_ := Aside0.mk (below_drew1 HB.out)
                        clear HO_3
                        clear BK102
                        clear HB
                        have HO_3 := n0_
                        have BK102 := n1_
                        have HB := n2_
                        clear n0_ n1_ n2_
                        have p103 : 0 ≤ (x6_2 : Int) := of_decide_eq_true (by first | (with_reducible assumption) | assumption)
                        have q103 : x6_2 < (l0.length : Int) := of_decide_eq_true (by first | (with_reducible assumption) | assumption)
                        obtain ⟨ad103, e103, hx103_0, hx103_1⟩ := at_T64 HR0.out x6_2 p103 q103
                        have hw103_1 := hx103_1
                        have hw103_0 := hx103_0
                        obtain rfl : ad101 = ad103 := (by injection e103)
                        try replace hx103_0 := (HB.out.cell (World.block_lt_of_cell? w _ hx103_0)).trans hx103_0
                        try replace hx103_1 := (HB.out.cell (World.block_lt_of_cell? w _ hx103_1)).trans hx103_1
                        replace p103 := eq_true p103
                        replace q103 := eq_true q103
                        refine start_ (n := 6) (S := fun w' => w'.cell? ⟨gb102, 0, none⟩ = some (.int .i64 ((rd_T64 l0 x9_1).f0)) ∧ w'.cell? ⟨gb102, 1, none⟩ = some (.int .i64 ((rd_T64 l0 x9_1).f1)) ∧ w'.cell? (ad101.add ((x6_2).toNat * 2)) = some (.int .i64 ((rd_T64 l0 x6_2).f0)) ∧ w'.cell? ⟨(ad101.add ((x6_2).toNat * 2)).block, (ad101.add ((x6_2).toNat * 2)).off + 1, none⟩ = some (.int .i64 ((rd_T64 l0 x6_2).f1))) (ds := []) #[false, false, false, false, false, false] (by kernel_rfl) rfl rfl ⟨(blk_cell BK102.out 0).trans rfl, (blk_cell BK102.out 1).trans rfl, ((HB.out.cell (World.block_lt_of_cell? w _ hw103_0)).trans hw103_0), ((HB.out.cell (World.block_lt_of_cell? w _ hw103_1)).trans hw103_1)⟩ (fun hHeld => ?_)
                        generalize wr.drew = w12 at HO_3 BK102 HB hx103_0 hx103_1 hHeld ⊢
                        refine pure_ (i := 1) (N := some 23) (v := ?_) (a' := ?_) #[false, true, false, false, false, false] rfl rfl (by kernel_rfl) (fun _ _ _ h => h) (Or.inl ⟨by rfl, ?_⟩) ?_ ?_
                        rotate_left
                        · intro w'
                          go_simp
                          with_reducible rfl
                        rotate_left
                        · simp only [Act.put, List.setIfInBounds_toArray, List.set_cons_zero, List.set_cons_succ, i64_w, i32_w]
                          rfl
                        refine pure_ (i := 2) (N := some 24) (v := ?_) (a' := ?_) #[false, true, true, false, false, false] rfl rfl (by kernel_rfl) (fun _ _ _ h => h) (Or.inl ⟨by rfl, ?_⟩) ?_ ?_
                        rotate_left
                        · intro w'
                          go_simp
                          with_reducible rfl
                        rotate_left
                        · simp only [Act.put, List.setIfInBounds_toArray, List.set_cons_zero, List.set_cons_succ, i64_w, i32_w]
                          rfl
                        refine pure_ (i := 3) (N := some 25) (v := ?_) (a' := ?_) #[false, true, true, true, false, false] rfl rfl (by kernel_rfl) (fun _ _ _ h => h) (Or.inl ⟨by rfl, ?_⟩) ?_ ?_
                        rotate_left
                        · intro w'
                          go_simp
                          with_reducible rfl
                        rotate_left
                        · simp only [Act.put, List.setIfInBounds_toArray, List.set_cons_zero, List.set_cons_succ, i64_w, i32_w]
                          rfl
                        refine take_ (i := 0) (N := some 22) (v := ?_) (a' := ?_) #[true, true, true, true, false, false] rfl rfl (by kernel_rfl) (fun _ _ _ h => h) (Or.inl ⟨by rfl, ?_⟩) hHeld ?_ ?_
                        rotate_left
                        · rintro w' ⟨s0, s1, s2, s3⟩
                          go_simp
                          with_reducible rfl
                        rotate_left
                        · simp only [Act.put, List.setIfInBounds_toArray, List.set_cons_zero, List.set_cons_succ, i64_w, i32_w]
                          rfl
                        refine take_ (i := 4) (N := some 26) (v := ?_) (a' := ?_) #[true, true, true, true, true, false] rfl rfl (by kernel_rfl) (fun _ _ _ h => h) (Or.inl ⟨by rfl, ?_⟩) hHeld ?_ ?_
                        rotate_left
                        · rintro w' ⟨s0, s1, s2, s3⟩
                          go_simp
                          with_reducible rfl
                        rotate_left
                        · simp only [Act.put, List.setIfInBounds_toArray, List.set_cons_zero, List.set_cons_succ, i64_w, i32_w]
                          rfl
                        refine one_ (i := 5) (N := some 27) #[true, true, true, true, true, true] rfl rfl (by kernel_rfl) (by decide) (fun K hK => ?_)
                        refine goes_ Try.func129 (by kernel_rfl) rfl #[.agg #[.int .i64 ((rd_T64 l0 x9_1).f0), .int .i64 ((rd_T64 l0 x9_1).f1)], .agg #[.int .i64 ((rd_T64 l0 x6_2).f0), .int .i64 ((rd_T64 l0 x6_2).f1)]] (by rfl) rfl rfl (by (try simp only [List.map_toArray, List.map_cons, List.map_nil]); first | done | rfl | (simp only [List.length_drop, List.length_take]; rfl)) ?_
                        with_reducible refine (spec_srCross.calls ((rd_T64 l0 x9_1).f0) ((rd_T64 l0 x9_1).f1) ((rd_T64 l0 x6_2).f0) ((rd_T64 l0 x6_2).f1) true _ A9.out).mono ?_
                        rintro e w13 ⟨rfl, hb⟩
                        refine ⟨_, rfl, ?_⟩
                        have n0_ := Aside0.mk (Kd.S_below (by (with_reducible repeat (first | apply Kd.S_alloc | apply Kd.S_drewN | apply Kd.S_drew)); exact HO_3.out) hb)
                        have n1_ := Aside0.mk (blk_below (g := gb102) (o := .cells #[.int .i64 ((rd_T64 l0 x9_1).f0), .int .i64 ((rd_T64 l0 x9_1).f1)] 64 (0, 0)) (by (with_reducible repeat (first | refine blk_drewN ?_ _ | refine blk_drew ?_ | refine blk_alloc ?_ _)); exact BK102.out) hb)
                        have n2_ := Aside0.mk (below_step (by repeat (first | (with_reducible first | exact HB.out | apply below_alloc | apply pw_below_drewN | apply below_drew1 | refine below_set ?_ GE102.out) | exact HB.out)) hb)
                        clear HO_3
                        clear BK102
                        clear HB
                        have HO_3 := n0_
                        have BK102 := n1_
                        have HB := n2_
                        clear n0_ n1_ n2_
                        (try clear hb)
                        (try clear hb2)
                        (try clear hk)
                        (try clear hi)
                        refine hK.out _ _ ⟨(blk_cell BK102.out 0).trans rfl, (blk_cell BK102.out 1).trans rfl, ((HB.out.cell (World.block_lt_of_cell? w _ hw103_0)).trans hw103_0), ((HB.out.cell (World.block_lt_of_cell? w _ hw103_1)).trans hw103_1)⟩ (fun hHeld => ?_)
                        clear hK K
                        refine norm_ (a' := ?_) ?_ ?_
                        rotate_left
                        · show Act.put _ (some 27) _ = _
                          simp only [Act.put, List.setIfInBounds_toArray, List.set_cons_zero, List.set_cons_succ, i64_w, i32_w]
                          rfl
                        refine done_ (by kernel_rfl) ?_
                        try go_wp2_with (first | ((with_reducible refine gate_dst (N := 31) rfl ?_); refine Kd.R_lit (Kd.int .i64) _ 3 ?hg (N := 31) ?hd (xs := ([x9_1, x6_2] : List Int)) (inner := [.int .i64 x9_1, .int .i64 x6_2]) (ok := fun _ => True) (okp := fun _ => True) ?hr ?hp (fun _ hk => hk) trivial (Below.refl _ _) (Nat.le_refl _) (by simp) ?_; (case hd => rfl); (case hg => rfl); (case hr => first | (go_simp; done) | (go_simp; rfl)); (case hp => exact (Reps.one (show Kd.M (Kd.int .i64) _ _ _ x9_1 [.int .i64 x9_1] from rfl) (Reps.one (show Kd.M (Kd.int .i64) _ _ _ x6_2 [.int .i64 x6_2] from rfl) (Reps.none _ _)))); intro v106 w14 ho15 hb hg_ hnew_; clear hg_ hnew_; (first | rw [← Ny105.out] at ho15 | (simp only [Int.reduceToNat] at ho15; rw [← Ny105.out] at ho15)); have n0_ := Aside0.mk (Kd.S_elder' (by (with_reducible repeat (first | apply Kd.S_alloc | apply Kd.S_drewN | apply Kd.S_drew)); exact HO_3.out) (Kd.R_base ho15) hb); have n1_ := Aside0.mk (Kd.R_lower ho15 (below_size (by repeat (first | (with_reducible first | exact HB.out | apply below_alloc | apply pw_below_drewN | apply below_drew1 | refine below_set ?_ GE102.out) | exact HB.out)))); have n2_ := Aside0.mk (blk_below (g := gb102) (o := .cells #[.int .i64 ((rd_T64 l0 x9_1).f0), .int .i64 ((rd_T64 l0 x9_1).f1)] 64 (0, 0)) (by (with_reducible repeat (first | refine blk_drewN ?_ _ | refine blk_drew ?_ | refine blk_alloc ?_ _)); exact BK102.out) hb); have n3_ := Aside0.mk (below_step (by repeat (first | (with_reducible first | exact HB.out | apply below_alloc | apply pw_below_drewN | apply below_drew1 | refine below_set ?_ GE102.out) | exact HB.out)) hb); clear HO_3; clear BK102; clear HB; have HO_3 := n0_; have HO107 := n1_; have BK102 := n2_; have HB := n3_; clear n0_ n1_ n2_ n3_; clear hb ho15; obtain ⟨Ao17, co17, eo17⟩ := Kd.R_slice HO107.out; subst eo17) | ((with_reducible refine gate_builtin (b := .append) (xs := #[.tmp 28, .tmp 32]) rfl ?_); at_builtin; refine Kd.S_append (Kd.slice 3 (Kd.int .i64)) (w0 := w) w.heap.size rfl (.tmp 28) (.tmp 32) 37 24 (.slice none 0 0) 24 rfl Try.underlying37 info24 rfl (by decide) (by omega) u3 x3_2 y105 [.slice Ao17 y105.length co17] (fun _ => True) (fun k_ => some k_ = (.slice Ao17 y105.length co17 : Value).ownBlock) rfl rfl ?aP (fun k_ hk_ => ((Kd.R_mono (ok' := fun k_ => ((fun _ => True)) k_ ∧ some k_ ≠ (u3 : Value).ownBlock) (Kd.R_apart' (HO107.out) (Kd.S_typed HO_3.out) (by decide)) (fun k_ hk => ⟨trivial, hk.2⟩))).1 k_ hk_.symm) ?aF ?aO ?aB ?aS ?aL ?_; (case aP => exact Kd.M_row (Kd.R_mono (Kd.R_tight rfl (Kd.R_mono (ok' := fun k_ => ((fun _ => True)) k_ ∧ some k_ ≠ (u3 : Value).ownBlock) (Kd.R_apart' (HO107.out) (Kd.S_typed HO_3.out) (by decide)) (fun k_ hk => ⟨trivial, hk.2⟩))) (fun _ h_ => h_))); (case aB => exact (by repeat (first | (with_reducible first | exact HB.out | apply below_alloc | apply pw_below_drewN | apply below_drew1 | refine below_set ?_ GE102.out) | exact HB.out))); (case aF => exact (fun _ _ => trivial)); (case aO => exact (by (with_reducible repeat (first | apply Kd.S_alloc | apply Kd.S_drewN | apply Kd.S_drew)); exact Kd.S_mono HO_3.out (fun k_ hk => ⟨trivial, fun e_ => hk.2 e_⟩))); (case aS => exact (below_size (by repeat (first | (with_reducible first | exact HB.out | apply below_alloc | apply pw_below_drewN | apply below_drew1 | refine below_set ?_ GE102.out) | exact HB.out)))); (case aL => have := LMc11.out; omega); intro v109 w16 ho hb hg hat; rw [← Ny108.out] at ho; have n0_ := Aside0.mk (blk_grown (g := gb102) (o := .cells #[.int .i64 ((rd_T64 l0 x9_1).f0), .int .i64 ((rd_T64 l0 x9_1).f1)] 64 (0, 0)) (by (with_reducible repeat (first | refine blk_drewN ?_ _ | refine blk_drew ?_ | refine blk_alloc ?_ _)); exact BK102.out) hg (Kd.S_ne HO_3.out BK102.out (by decide))); have n1_ := Aside0.mk (hb); have n2_ := Aside0.mk (ho); clear BK102; clear HB; clear HO_3; clear HO107; have BK102 := n0_; have HB := n1_; have HO110 := n2_; clear n0_ n1_ n2_; clear ho hb hg hat))
                        go_roundg k2
                        case measure => have := HK1.out; have := HK2.out; omega
                        case rel => exact ⟨(y108), (wrap64 (x6_2 + 1)), (by first | rfl | (simp; done) | (simp [*]; done)), H', ⟨by have := HK1.out; have := HK2.out; omega⟩, ⟨by (with_reducible repeat (first | apply Kd.S_alloc | apply Kd.S_drewN | apply Kd.S_drew)); exact HO110.out⟩, ⟨by (with_reducible repeat (first | refine blk_drewN ?_ _ | refine blk_drew ?_ | refine blk_alloc ?_ _)); exact BK102.out⟩, ⟨by repeat (first | (with_reducible first | exact HB.out | apply below_alloc | apply pw_below_drewN | apply below_drew1 | refine below_set ?_ GE102.out) | exact HB.out)⟩⟩
                      · rw [if_neg c11] at H
                        exact absurd H (by simp)
                    · replace c10 := Bool.eq_false_iff.mpr c10
                      subst c10
                      have H1 : (spec_cdPairs.l1 k2 l0 x3_2 x9_1 (wrap64 (x6_2 + 1)) l0 (l0.length : Int) x9_1 ((rd_T64 l0 x9_1).f0) ((rd_T64 l0 x9_1).f1)) = some r := by rw [if_neg (show ¬ (false = true) by decide)] at H; exact H
                      clear H
                      have H := H1
                      clear H1
                      have H' := Aside0.mk H
                      clear H
                      try go_wp2
                      have n0_ := Aside0.mk (Kd.S_drew HO_3.out)
                      have n1_ := Aside0.mk (blk_drew BK102.out)
                      have n2_ := Aside0.mk (below_drew1 HB.out)
                      clear HO_3
                      clear BK102
                      clear HB
                      have HO_3 := n0_
                      have BK102 := n1_
                      have HB := n2_
                      clear n0_ n1_ n2_
                      have p103 : 0 ≤ (x6_2 : Int) := of_decide_eq_true (by first | (with_reducible assumption) | assumption)
                      have q103 : x6_2 < (l0.length : Int) := of_decide_eq_true (by first | (with_reducible assumption) | assumption)
                      obtain ⟨ad103, e103, hx103_0, hx103_1⟩ := at_T64 HR0.out x6_2 p103 q103
                      have hw103_1 := hx103_1
                      have hw103_0 := hx103_0
                      obtain rfl : ad101 = ad103 := (by injection e103)
                      try replace hx103_0 := (HB.out.cell (World.block_lt_of_cell? w _ hx103_0)).trans hx103_0
                      try replace hx103_1 := (HB.out.cell (World.block_lt_of_cell? w _ hx103_1)).trans hx103_1
                      replace p103 := eq_true p103
                      replace q103 := eq_true q103
                      refine start_ (n := 6) (S := fun w' => w'.cell? ⟨gb102, 0, none⟩ = some (.int .i64 ((rd_T64 l0 x9_1).f0)) ∧ w'.cell? ⟨gb102, 1, none⟩ = some (.int .i64 ((rd_T64 l0 x9_1).f1)) ∧ w'.cell? (ad101.add ((x6_2).toNat * 2)) = some (.int .i64 ((rd_T64 l0 x6_2).f0)) ∧ w'.cell? ⟨(ad101.add ((x6_2).toNat * 2)).block, (ad101.add ((x6_2).toNat * 2)).off + 1, none⟩ = some (.int .i64 ((rd_T64 l0 x6_2).f1))) (ds := []) #[false, false, false, false, false, false] (by kernel_rfl) rfl rfl ⟨(blk_cell BK102.out 0).trans rfl, (blk_cell BK102.out 1).trans rfl, ((HB.out.cell (World.block_lt_of_cell? w _ hw103_0)).trans hw103_0), ((HB.out.cell (World.block_lt_of_cell? w _ hw103_1)).trans hw103_1)⟩ (fun hHeld => ?_)
                      generalize wr.drew = w18 at HO_3 BK102 HB hx103_0 hx103_1 hHeld ⊢
                      refine pure_ (i := 1) (N := some 23) (v := ?_) (a' := ?_) #[false, true, false, false, false, false] rfl rfl (by kernel_rfl) (fun _ _ _ h => h) (Or.inl ⟨by rfl, ?_⟩) ?_ ?_
                      rotate_left
                      · intro w'
                        go_simp
                        with_reducible rfl
                      rotate_left
                      · simp only [Act.put, List.setIfInBounds_toArray, List.set_cons_zero, List.set_cons_succ, i64_w, i32_w]
                        rfl
                      refine pure_ (i := 2) (N := some 24) (v := ?_) (a' := ?_) #[false, true, true, false, false, false] rfl rfl (by kernel_rfl) (fun _ _ _ h => h) (Or.inl ⟨by rfl, ?_⟩) ?_ ?_
                      rotate_left
                      · intro w'
                        go_simp
                        with_reducible rfl
                      rotate_left
                      · simp only [Act.put, List.setIfInBounds_toArray, List.set_cons_zero, List.set_cons_succ, i64_w, i32_w]
                        rfl
                      refine pure_ (i := 3) (N := some 25) (v := ?_) (a' := ?_) #[false, true, true, true, false, false] rfl rfl (by kernel_rfl) (fun _ _ _ h => h) (Or.inl ⟨by rfl, ?_⟩) ?_ ?_
                      rotate_left
                      · intro w'
                        go_simp
                        with_reducible rfl
                      rotate_left
                      · simp only [Act.put, List.setIfInBounds_toArray, List.set_cons_zero, List.set_cons_succ, i64_w, i32_w]
                        rfl
                      refine take_ (i := 0) (N := some 22) (v := ?_) (a' := ?_) #[true, true, true, true, false, false] rfl rfl (by kernel_rfl) (fun _ _ _ h => h) (Or.inl ⟨by rfl, ?_⟩) hHeld ?_ ?_
                      rotate_left
                      · rintro w' ⟨s0, s1, s2, s3⟩
                        go_simp
                        with_reducible rfl
                      rotate_left
                      · simp only [Act.put, List.setIfInBounds_toArray, List.set_cons_zero, List.set_cons_succ, i64_w, i32_w]
                        rfl
                      refine take_ (i := 4) (N := some 26) (v := ?_) (a' := ?_) #[true, true, true, true, true, false] rfl rfl (by kernel_rfl) (fun _ _ _ h => h) (Or.inl ⟨by rfl, ?_⟩) hHeld ?_ ?_
                      rotate_left
                      · rintro w' ⟨s0, s1, s2, s3⟩
                        go_simp
                        with_reducible rfl
                      rotate_left
                      · simp only [Act.put, List.setIfInBounds_toArray, List.set_cons_zero, List.set_cons_succ, i64_w, i32_w]
                        rfl
                      refine one_ (i := 5) (N := some 27) #[true, true, true, true, true, true] rfl rfl (by kernel_rfl) (by decide) (fun K hK => ?_)
                      refine goes_ Try.func129 (by kernel_rfl) rfl #[.agg #[.int .i64 ((rd_T64 l0 x9_1).f0), .int .i64 ((rd_T64 l0 x9_1).f1)], .agg #[.int .i64 ((rd_T64 l0 x6_2).f0), .int .i64 ((rd_T64 l0 x6_2).f1)]] (by rfl) rfl rfl (by (try simp only [List.map_toArray, List.map_cons, List.map_nil]); first | done | rfl | (simp only [List.length_drop, List.length_take]; rfl)) ?_
                      with_reducible refine (spec_srCross.calls ((rd_T64 l0 x9_1).f0) ((rd_T64 l0 x9_1).f1) ((rd_T64 l0 x6_2).f0) ((rd_T64 l0 x6_2).f1) false _ A9.out).mono ?_
                      rintro e w19 ⟨rfl, hb⟩
                      refine ⟨_, rfl, ?_⟩
                      have n0_ := Aside0.mk (Kd.S_below (by (with_reducible repeat (first | apply Kd.S_alloc | apply Kd.S_drewN | apply Kd.S_drew)); exact HO_3.out) hb)
                      have n1_ := Aside0.mk (blk_below (g := gb102) (o := .cells #[.int .i64 ((rd_T64 l0 x9_1).f0), .int .i64 ((rd_T64 l0 x9_1).f1)] 64 (0, 0)) (by (with_reducible repeat (first | refine blk_drewN ?_ _ | refine blk_drew ?_ | refine blk_alloc ?_ _)); exact BK102.out) hb)
                      have n2_ := Aside0.mk (below_step (by repeat (first | (with_reducible first | exact HB.out | apply below_alloc | apply pw_below_drewN | apply below_drew1 | refine below_set ?_ GE102.out) | exact HB.out)) hb)
                      clear HO_3
                      clear BK102
                      clear HB
                      have HO_3 := n0_
                      have BK102 := n1_
                      have HB := n2_
                      clear n0_ n1_ n2_
                      (try clear hb)
                      (try clear hb2)
                      (try clear hk)
                      (try clear hi)
                      refine hK.out _ _ ⟨(blk_cell BK102.out 0).trans rfl, (blk_cell BK102.out 1).trans rfl, ((HB.out.cell (World.block_lt_of_cell? w _ hw103_0)).trans hw103_0), ((HB.out.cell (World.block_lt_of_cell? w _ hw103_1)).trans hw103_1)⟩ (fun hHeld => ?_)
                      clear hK K
                      refine norm_ (a' := ?_) ?_ ?_
                      rotate_left
                      · show Act.put _ (some 27) _ = _
                        simp only [Act.put, List.setIfInBounds_toArray, List.set_cons_zero, List.set_cons_succ, i64_w, i32_w]
                        rfl
                      refine done_ (by kernel_rfl) ?_
                      try go_wp2
                      go_roundg k2
                      case measure => have := HK1.out; have := HK2.out; omega
                      case rel => exact ⟨(x3_2), (wrap64 (x6_2 + 1)), (by first | rfl | (simp; done) | (simp [*]; done)), H', ⟨by have := HK1.out; have := HK2.out; omega⟩, ⟨by (with_reducible repeat (first | apply Kd.S_alloc | apply Kd.S_drewN | apply Kd.S_drew)); exact HO_3.out⟩, ⟨by (with_reducible repeat (first | refine blk_drewN ?_ _ | refine blk_drew ?_ | refine blk_alloc ?_ _)); exact BK102.out⟩, ⟨by repeat (first | (with_reducible first | exact HB.out | apply below_alloc | apply pw_below_drewN | apply below_drew1 | refine below_set ?_ GE102.out) | exact HB.out)⟩⟩
                  · rw [if_neg c8] at H
                    exact absurd H (by simp)
                · rw [if_neg c7] at H
                  have c7b0 : decide (x6_2 < (l0.length : Int)) = false := decide_eq_false c7
                  clear c7
                  have H' := Aside0.mk H
                  clear H
                  go_wp2
                  go_roundg k2
                  case measure => have := HK1.out; have := HK2.out; omega
                  case rel => exact ⟨(x3_2), (wrap64 (x9_1 + 1)), (by first | rfl | (simp; done) | (simp [*]; done)), H', ⟨by have := HK1.out; have := HK2.out; omega⟩, ⟨by (with_reducible repeat (first | apply Kd.S_alloc | apply Kd.S_drewN | apply Kd.S_drew)); exact HO_3.out⟩, ⟨by repeat (first | (with_reducible first | exact HB.out | apply below_alloc | apply pw_below_drewN | apply below_drew1 | refine below_set ?_ GE102.out) | exact HB.out)⟩⟩
          · rw [if_neg c4] at H
            exact absurd H (by simp)
        · rw [if_neg c3] at H
          exact absurd H (by simp)
      · rw [if_neg c2] at H
        have c2b0 : decide (x9_1 < (l0.length : Int)) = false := decide_eq_false c2
        clear c2
        obtain rfl := Option.some.inj H
        go_wp2
        go_ret
        exact ⟨_, by first | rfl | (simp [errW_none, errW_some] <;> rfl) | (simp [*, errW_none, errW_some] <;> rfl), by (with_reducible repeat (first | apply Kd.S_alloc | apply Kd.S_drewN | apply Kd.S_drew)); exact HO_3.out, by repeat (first | (with_reducible first | exact HB.out | apply below_alloc | apply pw_below_drewN | apply below_drew1) | exact HB.out)⟩
end Go.Proofs.Yteeghncofacmhaa.Q
end
section
namespace Go.Proofs.Yteeghncofacmhaa.Q
open Go.RowKit Go.Proofs.YteeghncofacmhaaW.PrintWords Go.Proofs.YteeghncofacmhaaW.PrintLast Go.Proofs.YteeghncofacmhaaW.PrintMore
attribute [local go_sem] max2_int min2_int max_two min_two max_three min_three max_four min_four   -- for this text's walks alone
set_option linter.unusedVariables false
set_option linter.unusedSimpArgs false
/-! ### spec_rePlane: function 56 -/
def spec_rePlane.f (k : Nat) (a0 : Int) (l1 : List (S64)) : Option (Bool) := (spec_cdGood.f k a0 l1).bind fun t101 => (if t101 = true then ((spec_cdPairs.f k l1).bind fun t102 => (some ((t102.length : Int) == 0))) else (some false))
set_option maxHeartbeats 8000000 in
set_option maxRecDepth 100000 in
theorem spec_rePlane.calls (k : Nat) (a0 : Int) (A1 : Option Addr) (c1 : Nat) (l1 : List (S64)) (r : Bool) (w : World) (hr1 : Kd.C k64 w A1 l1.length l1) (hc1 : l1.length ≤ c1) (h : spec_rePlane.f k a0 l1 = some r) :
    Calls Try.prog 56 #[.int .i64 a0, .slice A1 l1.length c1] w fun e w' => e = .returned (.bool r) ∧ Below w.heap.size w w' := by
  have HR1 := Aside0.mk hr1
  have HC1 := Aside0.mk hc1
  clear hr1 hc1
  have HB := Aside0.mk (Below.refl w.heap.size w)
  have H : ((spec_cdGood.f k a0 l1).bind fun t101 => (if t101 = true then ((spec_cdPairs.f k l1).bind fun t102 => (some ((t102.length : Int) == 0))) else (some false))) = some r := h
  clear h
  replace H := Option.bind_eq_some_iff.mp H
  obtain ⟨t101, A30, H⟩ := H
  replace H : (if t101 = true then ((spec_cdPairs.f k l1).bind fun t102 => (some ((t102.length : Int) == 0))) else (some false)) = some r := H
  have A3 := Aside0.mk A30
  clear A30
  by_cases c4 : t101 = true
  · subst c4
    have H1 : ((spec_cdPairs.f k l1).bind fun t102 => (some ((t102.length : Int) == 0))) = some r := by rw [if_pos rfl] at H; exact H
    clear H
    have H := H1
    clear H1
    replace H := Option.bind_eq_some_iff.mp H
    obtain ⟨t102, A50, H⟩ := H
    replace H : (some ((t102.length : Int) == 0)) = some r := H
    have A5 := Aside0.mk A50
    clear A50
    obtain rfl := Option.some.inj H
    go_enter Try.func56, Try.ntmps56
    go_wp2_with (first | ((with_reducible refine gate_callee (f := 67) rfl ?_); refine goesL_ (some 7) rfl rfl Try.func67 (by kernel_rfl) rfl #[.int .i64 a0, .slice A1 l1.length c1] rfl (by (try simp only [List.map_toArray, List.map_cons, List.map_nil]); first | done | rfl | (simp only [List.length_drop, List.length_take]; rfl)) ?_; (with_reducible refine (spec_cdGood.calls k a0 _ _ l1 true _ ?side1 ?side2 A3.out).mono ?_); (case side1 => repeat (first | exact HR1.out | (with_reducible refine Kd.C_alloc ?_ _) | (with_reducible refine Kd.C_drewN ?_ _) | (with_reducible refine Kd.C_drew ?_))); (case side2 => exact HC1.out); rintro e w6 ⟨rfl, hb⟩; refine ⟨_, rfl, ?_⟩; have n0_ := Aside0.mk (below_step (by repeat (first | (with_reducible first | exact HB.out | apply below_alloc | apply pw_below_drewN | apply below_drew1) | exact HB.out)) hb); clear HB; have HB := n0_; clear n0_; (try clear hb); (try clear hb2); (try clear hk); (try clear hi)) | (go_at_call 92; (with_reducible refine (spec_cdPairs.calls k _ _ l1 t102 _ ?side1 ?side2 A5.out).mono ?_); (case side1 => repeat (first | exact (Kd.C_below HR1.out HB.out) | (with_reducible refine Kd.C_alloc ?_ _) | (with_reducible refine Kd.C_drewN ?_ _) | (with_reducible refine Kd.C_drew ?_))); (case side2 => exact HC1.out); rintro e w7 ⟨v103, rfl, ho0, hb⟩; have n0_ := Aside0.mk (Kd.S_lower ho0 (below_size (by repeat (first | (with_reducible first | exact HB.out | apply below_alloc | apply pw_below_drewN | apply below_drew1) | exact HB.out)))); have n1_ := Aside0.mk (below_step (by repeat (first | (with_reducible first | exact HB.out | apply below_alloc | apply pw_below_drewN | apply below_drew1) | exact HB.out)) hb); clear HB; have HO104 := n0_; have HB := n1_; clear n0_ n1_; (try clear hb); (try clear hb2); (try clear hk); (try clear hi); (try clear ho0); obtain ⟨Ao8, co8, eo8⟩ := Kd.S_slice HO104.out; subst eo8))
    go_ret
    exact ⟨by first | rfl | (simp [errW_none, errW_some] <;> rfl) | (simp [*, errW_none, errW_some] <;> rfl), by repeat (first | (with_reducible first | exact HB.out | apply below_alloc | apply pw_below_drewN | apply below_drew1) | exact HB.out)⟩
  · replace c4 := Bool.eq_false_iff.mpr c4
    subst c4
    have H1 : (some false) = some r := by rw [if_neg (show ¬ (false = true) by decide)] at H; exact H
    clear H
    have H := H1
    clear H1
    obtain rfl := Option.some.inj H
    go_enter Try.func56, Try.ntmps56
    go_wp2_with (first | ((with_reducible refine gate_callee (f := 67) rfl ?_); refine goesL_ (some 7) rfl rfl Try.func67 (by kernel_rfl) rfl #[.int .i64 a0, .slice A1 l1.length c1] rfl (by (try simp only [List.map_toArray, List.map_cons, List.map_nil]); first | done | rfl | (simp only [List.length_drop, List.length_take]; rfl)) ?_; (with_reducible refine (spec_cdGood.calls k a0 _ _ l1 false _ ?side1 ?side2 A3.out).mono ?_); (case side1 => repeat (first | exact HR1.out | (with_reducible refine Kd.C_alloc ?_ _) | (with_reducible refine Kd.C_drewN ?_ _) | (with_reducible refine Kd.C_drew ?_))); (case side2 => exact HC1.out); rintro e w9 ⟨rfl, hb⟩; refine ⟨_, rfl, ?_⟩; have n0_ := Aside0.mk (below_step (by repeat (first | (with_reducible first | exact HB.out | apply below_alloc | apply pw_below_drewN | apply below_drew1) | exact HB.out)) hb); clear HB; have HB := n0_; clear n0_; (try clear hb); (try clear hb2); (try clear hk); (try clear hi)))
    go_ret
    exact ⟨by first | rfl | (simp [errW_none, errW_some] <;> rfl) | (simp [*, errW_none, errW_some] <;> rfl), by repeat (first | (with_reducible first | exact HB.out | apply below_alloc | apply pw_below_drewN | apply below_drew1) | exact HB.out)⟩
end Go.Proofs.Yteeghncofacmhaa.Q
end
section
namespace Go.Proofs.Yteeghncofacmhaa.Q
open Go.RowKit Go.Proofs.YteeghncofacmhaaW.PrintWords Go.Proofs.YteeghncofacmhaaW.PrintLast Go.Proofs.YteeghncofacmhaaW.PrintMore
attribute [local go_sem] max2_int min2_int max_two min_two max_three min_three max_four min_four   -- for this text's walks alone
set_option linter.unusedVariables false
set_option linter.unusedSimpArgs false
/-! ### slices_Compare_int_int: function 107 -/
def slices_Compare_int_int.l0 : Nat → List Int → List Int → List Int → Int → Int → Option (Int)
  | 0, _, _, _, _, _ => none
  | k + 1, x0, x1, x9, x10, x11 => if x11 < x10 then (if 0 ≤ x11 then (if x11 < (x9.length : Int) then (if x11 ≥ (x1.length : Int) then (some 1) else (if x11 < (x1.length : Int) then ((cmp_Compare_int.f (rd x9 x11) (rd x1 x11)).bind fun t103 => (if t103 = 0 then (slices_Compare_int_int.l0 k x0 x1 x9 x10 (wrap64 (x11 + 1))) else (some t103))) else (none))) else (none)) else (none)) else (if (x0.length : Int) < (x1.length : Int) then (some (-1)) else (some 0))
def slices_Compare_int_int.f (k : Nat) (l0 : List Int) (l1 : List Int) : Option (Int) := slices_Compare_int_int.l0 k l0 l1 l0 (l0.length : Int) 0
end Go.Proofs.Yteeghncofacmhaa.Q
end
section
/- Sets of chords, as_ the program and as_ the reference look at them: plain laws on the printed functions. -/
namespace Go.Proofs.Yteeghncofacmhaa.Q
open Go.RowKit Go.Proofs.YteeghncofacmhaaW.PrintWords Go.Proofs.YteeghncofacmhaaW.PrintLast Go.Proofs.YteeghncofacmhaaW.PrintMore
set_option linter.unusedVariables false
set_option linter.unusedSimpArgs false
abbrev Ch := S64
theorem ch_ext {c d : Ch} (h0 : c.f0 = d.f0) (h1 : c.f1 = d.f1) : c = d := by cases c; cases d; simp_all
instance instDecCh : DecidableEq Ch := fun c d => decidable_of_iff (c.f0 = d.f0 ∧ c.f1 = d.f1) ⟨fun h => ch_ext h.1 h.2, fun h => by subst h; exact ⟨rfl, rfl⟩⟩
theorem rdT_at {xs : List Ch} {i : Nat} (h : i < xs.length) : rd_T64 xs (i : Int) = xs[i] := by
  simp [rd_T64, List.getD_eq_getElem?_getD, List.getElem?_eq_getElem h]
theorem w64p {i n : Nat} (h : i < n) (hn : n ≤ 4611686018427387904) (h0 : 0 < i) : wrap64 ((i : Int) - 1) = ((i - 1 : Nat) : Int) := by unfold wrap64; omega
theorem w64s {x : Int} (h : -4611686018427387904 ≤ x) (h1 : x ≤ 4611686018427387904) : wrap64 x = x := by unfold wrap64; omega
theorem ev_eq {α : Type} {g : Nat → Option α} {r r' : α} (h : Ev g r) (e : r = r') : Ev g r' := e ▸ h
theorem Ev.some_ {α : Type} {g : Nat → Option α} {r : α} (h : ∀ k, g (k + 1) = some r) : Ev g r := ⟨1, fun k hk => by obtain ⟨m, rfl⟩ : ∃ m, k = m + 1 := ⟨k - 1, by omega⟩; exact h m⟩
theorem Ev.const {α : Type} {g : Nat → Option α} {r : α} (h : ∀ k, g k = some r) : Ev g r := ⟨0, fun k _ => h k⟩
def chOk (n : Int) (c : Ch) : Bool := decide (0 ≤ c.f0 ∧ c.f0 < c.f1 ∧ c.f1 < n)
def chLt (c d : Ch) : Bool := decide (c.f0 < d.f0 ∨ c.f0 = d.f0 ∧ c.f1 < d.f1)
/-- Chords of n points, each behind the one before. -/
def chk (n : Int) : Option Ch → List Ch → Bool
  | _, [] => true
  | p, c :: r => chOk n c && (match p with | none => true | some p => chLt p c) && chk n (some c) r
def goodSet (n : Int) (l : List Ch) : Bool := decide (3 ≤ n ∧ n ≤ 60) && chk n none l && decide (l.length ≤ 40)
def prev (l : List Ch) (i : Nat) : Option Ch := if i = 0 then none else some (l.getD (i - 1) z64)
theorem prev_succ {l : List Ch} {i : Nat} (h : i < l.length) : prev l (i + 1) = some l[i] := by
  simp [prev, List.getD_eq_getElem?_getD, List.getElem?_eq_getElem h]
/-! ### the program's side -/
theorem cmpInt_eq (a b : Int) : cmp_Compare_int.f a b = some (if a < b then -1 else if a > b then 1 else 0) := by
  unfold cmp_Compare_int.f cmp_isNaN_int.f
  have h : ∀ x : Int, (x != x) = false := fun x => by simp
  simp only [h, Option.bind_some, Bool.false_eq_true, if_false]
  split
  · rfl
  · split <;> rfl
theorem cmpOr_ev (x y : Int) : Ev (fun k => cmp_Or_int.f k [x, y]) (if x = 0 then y else x) := by
  refine ⟨3, fun k hk => ?_⟩
  obtain ⟨k, rfl⟩ : ∃ m, k = m + 3 := ⟨k - 3, by omega⟩
  have e1 : rd [x, y] 0 = x := rfl
  have e2 : rd [x, y] 1 = y := rfl
  have w0 : wrap64 (0 + 1) = 1 := by unfold wrap64; omega
  have w1 : wrap64 (1 + 1) = 2 := by unfold wrap64; omega
  unfold cmp_Or_int.f
  simp only [cmp_Or_int.l0, List.length_cons, List.length_nil, e1, w0, w1, e2]
  by_cases hx : x = 0
  · subst hx
    by_cases hy : y = 0
    · subst hy; simp
    · simp [hy]
  · simp [hx]
def cmpCh (c d : Ch) : Int := if c.f0 < d.f0 then -1 else if c.f0 > d.f0 then 1 else if c.f1 < d.f1 then -1 else if c.f1 > d.f1 then 1 else 0
theorem cmpCh_lt (c d : Ch) : decide (cmpCh c d ≥ 0) = !chLt c d := by
  unfold cmpCh chLt
  by_cases h1 : c.f0 < d.f0
  · simp [h1]
  · by_cases h2 : c.f0 > d.f0
    · simp [h1, h2]; omega
    · have : c.f0 = d.f0 := by omega
      by_cases h3 : c.f1 < d.f1
      · simp [h1, h2, h3, this]
      · by_cases h4 : c.f1 > d.f1 <;> simp [h1, h2, h3, h4, this]
theorem compareChords_ev (c d : Ch) : Ev (fun k => impl_compareChords.f k c.f0 c.f1 d.f0 d.f1) (cmpCh c d) := by
  unfold impl_compareChords.f
  simp only [cmpInt_eq, Option.bind_some]
  refine ev_eq (Ev.bind (cmpOr_ev _ _) (Ev.now _)) ?_
  unfold cmpCh
  by_cases h1 : c.f0 < d.f0
  · simp [h1]
  · by_cases h2 : c.f0 > d.f0 <;> simp [h1, h2]
theorem isChord_eq (n a b : Int) : impl_isChord.f n a b = some (decide (0 ≤ a ∧ a < b ∧ b < n)) := by
  unfold impl_isChord.f
  by_cases h1 : a ≥ 0
  · by_cases h2 : a < b
    · rw [if_pos h1, if_pos h2]; congr 1; rw [decide_eq_decide]; omega
    · rw [if_pos h1, if_neg h2]; congr 1; symm; rw [decide_eq_false_iff_not]; omega
  · rw [if_neg h1]; congr 1; symm; rw [decide_eq_false_iff_not]; omega
theorem within_eq (a b c : Int) : impl_within.f a b c = some (decide (b ≤ a ∧ a ≤ c)) := by
  unfold impl_within.f
  by_cases h : a ≥ b
  · rw [if_pos h]; congr 1; rw [decide_eq_decide]; omega
  · rw [if_neg h]; congr 1; symm; rw [decide_eq_false_iff_not]; omega
theorem isCircle_eq (a : Int) : impl_isCircle.f a = some (decide (3 ≤ a ∧ a ≤ 60)) := by
  unfold impl_isCircle.f; rw [within_eq]; rfl
theorem areChords_l0 (n : Int) (l : List Ch) (hn : l.length ≤ 4611686018427387904) : ∀ (d i : Nat), i + d = l.length →
    Ev (fun k => impl_AreChords.l0 k n l l (l.length : Int) (i : Int)) (chk n (prev l i) (l.drop i) && decide (l.length ≤ 40)) := by
  intro d
  induction d with
  | zero =>
    intro i hd
    refine Ev.some_ fun k => ?_
    simp only [impl_AreChords.l0]
    rw [if_neg (by omega), List.drop_eq_nil_of_le (by omega)]
    simp [chk]; omega
  | succ d ih =>
    intro i hd
    have hi : i < l.length := by omega
    have h1 : ∀ k, impl_AreChords.l0 (k + 1) n l l (l.length : Int) (i : Int) = (if chOk n l[i] = true then (if (i : Int) > 0 then ((impl_compareChords.f k (l.getD (i - 1) z64).f0 (l.getD (i - 1) z64).f1 l[i].f0 l[i].f1).bind fun t => (if t ≥ 0 then some false else impl_AreChords.l0 k n l l (l.length : Int) ((i + 1 : Nat) : Int))) else impl_AreChords.l0 k n l l (l.length : Int) ((i + 1 : Nat) : Int)) else some false) := by
      intro k
      simp only [impl_AreChords.l0]
      rw [if_pos (by omega), if_pos (by omega), if_pos (by omega), rdT_at hi, isChord_eq, Option.bind_some, w64 hi hn]
      unfold chOk
      refine ite_congr rfl (fun _ => ?_) (fun _ => rfl)
      by_cases h0 : (i : Int) > 0
      · rw [if_pos h0, if_pos h0, w64p hi hn (by omega), if_pos (by omega), if_pos (by omega), rdT_at (show i - 1 < l.length by omega)]
        rw [List.getD_eq_getElem?_getD, List.getElem?_eq_getElem (show i - 1 < l.length by omega)]
        rfl
      · rw [if_neg h0, if_neg h0]
    refine Ev.step h1 ?_
    rw [List.drop_eq_getElem_cons hi]
    have ih' := ih (i + 1) (by omega)
    rw [prev_succ hi] at ih'
    by_cases hc : chOk n l[i] = true
    · refine Ev.congr (fun k => by rw [if_pos hc]) ?_
      by_cases h0 : (i : Int) > 0
      · have hp : prev l i = some (l.getD (i - 1) z64) := by unfold prev; rw [if_neg (by omega)]
        refine Ev.congr (fun k => by rw [if_pos h0]) ?_
        refine Ev.bind (compareChords_ev (l.getD (i - 1) z64) l[i]) ?_
        have hcmp := cmpCh_lt (l.getD (i - 1) z64) l[i]
        by_cases hg : cmpCh (l.getD (i - 1) z64) l[i] ≥ 0
        · refine Ev.congr (fun k => by rw [if_pos hg]) ?_
          refine ev_eq (Ev.now _) ?_
          have : chLt (l.getD (i - 1) z64) l[i] = false := by
            rw [decide_eq_true hg] at hcmp
            cases hx : chLt (l.getD (i - 1) z64) l[i] with
            | false => rfl
            | true => rw [hx] at hcmp; cases hcmp
          simp only [chk, hp, this, Bool.and_false, Bool.false_and]
        · refine Ev.congr (fun k => by rw [if_neg hg]) ?_
          refine ev_eq ih' ?_
          have : chLt (l.getD (i - 1) z64) l[i] = true := by
            rw [decide_eq_false hg] at hcmp
            cases hx : chLt (l.getD (i - 1) z64) l[i] with
            | true => rfl
            | false => rw [hx] at hcmp; cases hcmp
          simp only [chk, hp, this, hc, Bool.true_and]
      · have hp : prev l i = none := by unfold prev; rw [if_pos (by omega)]
        refine Ev.congr (fun k => by rw [if_neg h0]) ?_
        refine ev_eq ih' ?_
        simp only [chk, hp, hc, Bool.true_and]
    · refine Ev.congr (fun k => by rw [if_neg hc]) ?_
      refine ev_eq (Ev.now _) ?_
      rw [Bool.not_eq_true] at hc
      simp only [chk, hc, Bool.false_and]
theorem areChords_ev (n : Int) (l : List Ch) (hn : l.length ≤ 4611686018427387904) : Ev (fun k => impl_AreChords.f k n l) (goodSet n l) := by
  unfold impl_AreChords.f
  simp only [within_eq, Option.bind_some]
  unfold goodSet
  by_cases h : 3 ≤ n ∧ n ≤ 60
  · simp only [h, and_self, decide_true, if_true, Bool.true_and]
    exact areChords_l0 n l hn l.length 0 (by omega)
  · simp only [h, decide_false, Bool.false_and, Bool.false_eq_true, if_false]
    exact Ev.now _
theorem isSet_ev (n : Int) (l : List Ch) (hn : l.length ≤ 4611686018427387904) : Ev (fun k => impl_isSet.f k n l) (goodSet n l) := by
  unfold impl_isSet.f
  simp only [isCircle_eq, Option.bind_some]
  by_cases h : 3 ≤ n ∧ n ≤ 60
  · simp only [h, and_self, decide_true, if_true]
    exact Ev.bind (areChords_ev n l hn) (Ev.now _)
  · simp only [h, decide_false, Bool.false_eq_true, if_false]
    refine ev_eq (Ev.now _) ?_
    unfold goodSet; simp [h]
/-! ### the reference's side -/
theorem srLess_eq (c d : Ch) : spec_srLess.f c.f0 c.f1 d.f0 d.f1 = some (chLt c d) := by
  unfold spec_srLess.f chLt
  by_cases h1 : c.f0 < d.f0
  · rw [if_pos h1]; simp [h1]
  · by_cases h2 : c.f0 = d.f0
    · rw [if_neg h1, if_pos h2]; simp [h2]
    · rw [if_neg h1, if_neg h2]; simp [h1, h2]
theorem srIs_eq (n a b : Int) (h : 0 ≤ n ∧ n ≤ 60) : spec_srIs.f n a b = some (decide (0 ≤ a ∧ a < b ∧ b < n)) := by
  unfold spec_srIs.f
  rw [w64s (x := n - 1) (by omega) (by omega)]
  simp only [l1In_eq, Option.bind_some]
  by_cases h1 : 0 ≤ a ∧ a ≤ n - 1
  · rw [decide_eq_true h1, if_pos rfl, w64s (x := a + 1) (by omega) (by omega)]
    congr 1; rw [decide_eq_decide]; omega
  · rw [decide_eq_false h1, if_neg (by simp)]
    congr 1; symm; rw [decide_eq_false_iff_not]; omega
theorem srPoints_eq (a : Int) : spec_srPoints.f a = some (decide (3 ≤ a ∧ a ≤ 60)) := by
  unfold spec_srPoints.f; rw [l1In_eq]; rfl
theorem cdGood_l0 (n : Int) (h60 : 3 ≤ n ∧ n ≤ 60) (l : List Ch) (hn : l.length ≤ 4611686018427387904) : ∀ (d i : Nat), i + d = l.length →
    Ev (fun k => spec_cdGood.l0 k n l l (l.length : Int) (i : Int)) (chk n (prev l i) (l.drop i)) := by
  intro d
  induction d with
  | zero =>
    intro i hd
    refine Ev.some_ fun k => ?_
    simp only [spec_cdGood.l0]
    rw [if_neg (by omega), List.drop_eq_nil_of_le (by omega)]
    simp [chk]
  | succ d ih =>
    intro i hd
    have hi : i < l.length := by omega
    have h1 : ∀ k, spec_cdGood.l0 (k + 1) n l l (l.length : Int) (i : Int) = (if chOk n l[i] = true then (if (i : Int) > 0 then (if chLt (l.getD (i - 1) z64) l[i] = true then spec_cdGood.l0 k n l l (l.length : Int) ((i + 1 : Nat) : Int) else some false) else spec_cdGood.l0 k n l l (l.length : Int) ((i + 1 : Nat) : Int)) else some false) := by
      intro k
      simp only [spec_cdGood.l0]
      rw [if_pos (by omega), if_pos (by omega), if_pos (by omega), rdT_at hi, srIs_eq _ _ _ (by omega), Option.bind_some, w64 hi hn]
      unfold chOk
      refine ite_congr rfl (fun _ => ?_) (fun _ => rfl)
      by_cases h0 : (i : Int) > 0
      · rw [if_pos h0, if_pos h0, w64p hi hn (by omega), if_pos (by omega), if_pos (by omega), rdT_at (show i - 1 < l.length by omega), srLess_eq, Option.bind_some]
        rw [List.getD_eq_getElem?_getD, List.getElem?_eq_getElem (show i - 1 < l.length by omega)]
        rfl
      · rw [if_neg h0, if_neg h0]
    refine Ev.step h1 ?_
    rw [List.drop_eq_getElem_cons hi]
    have ih' := ih (i + 1) (by omega)
    rw [prev_succ hi] at ih'
    by_cases hc : chOk n l[i] = true
    · refine Ev.congr (fun k => by rw [if_pos hc]) ?_
      by_cases h0 : (i : Int) > 0
      · have hp : prev l i = some (l.getD (i - 1) z64) := by unfold prev; rw [if_neg (by omega)]
        refine Ev.congr (fun k => by rw [if_pos h0]) ?_
        by_cases hg : chLt (l.getD (i - 1) z64) l[i] = true
        · refine Ev.congr (fun k => by rw [if_pos hg]) ?_
          refine ev_eq ih' ?_
          simp only [chk, hp, hg, hc, Bool.true_and]
        · refine Ev.congr (fun k => by rw [if_neg hg]) ?_
          refine ev_eq (Ev.now _) ?_
          rw [Bool.not_eq_true] at hg
          simp only [chk, hp, hg, Bool.and_false, Bool.false_and]
      · have hp : prev l i = none := by unfold prev; rw [if_pos (by omega)]
        refine Ev.congr (fun k => by rw [if_neg h0]) ?_
        refine ev_eq ih' ?_
        simp only [chk, hp, hc, Bool.true_and]
    · refine Ev.congr (fun k => by rw [if_neg hc]) ?_
      refine ev_eq (Ev.now _) ?_
      rw [Bool.not_eq_true] at hc
      simp only [chk, hc, Bool.false_and]
theorem cdGood_ev (n : Int) (l : List Ch) (hn : l.length ≤ 4611686018427387904) : Ev (fun k => spec_cdGood.f k n l) (goodSet n l) := by
  unfold spec_cdGood.f
  simp only [srPoints_eq, Option.bind_some]
  unfold goodSet
  by_cases h : 3 ≤ n ∧ n ≤ 60
  · simp only [h, and_self, decide_true, if_true, Bool.true_and]
    by_cases h4 : l.length ≤ 40
    · refine Ev.step (f := fun k => spec_cdGood.l0 k n l l (l.length : Int) 0) (fun k => ?_) (ev_eq (cdGood_l0 n h l hn l.length 0 (by omega)) ?_)
      · simp only [spec_cdGood.j0]
        rw [if_neg (by simp; omega)]
      · simp [h4, prev]
    · refine Ev.some_ fun k => ?_
      simp only [spec_cdGood.j0]
      rw [if_pos (by simp; omega)]
      simp [h4]
  · simp only [h, decide_false, Bool.false_and, Bool.false_eq_true, if_false]
    refine Ev.some_ fun k => ?_
    simp only [spec_cdGood.j0, if_true]
end Go.Proofs.Yteeghncofacmhaa.Q
end
section
namespace Go.Proofs.Yteeghncofacmhaa.Q
open Go.RowKit Go.Proofs.YteeghncofacmhaaW.PrintWords Go.Proofs.YteeghncofacmhaaW.PrintLast Go.Proofs.YteeghncofacmhaaW.PrintMore
attribute [local go_sem] max2_int min2_int max_two min_two max_three min_three max_four min_four   -- for this text's walks alone
set_option linter.unusedVariables false
set_option linter.unusedSimpArgs false
theorem eqA64 (d : Nat) (w : World) (x0 y0 : Int) (x1 y1 : Int) :
    (Op.equalIn (d + 2) 64 (.agg #[.int .i64 x0, .int .i64 x1]) (.agg #[.int .i64 y0, .int .i64 y1])).run Try.prog w = .ok (x0 == y0 && (x1 == y1)) w := by
  refine eqA_of Try.underlying64 (by kernel_rfl) ?_
  refine eqf_cons (by rfl) (by go_simp; rfl) (by go_simp; rfl) (by go_simp) ?_
  exact eqf_last (by rfl) (by go_simp; rfl) (by go_simp; rfl) (by go_simp)
end Go.Proofs.Yteeghncofacmhaa.Q
end
section
namespace Go.Proofs.Yteeghncofacmhaa.Q
open Go.RowKit Go.Proofs.YteeghncofacmhaaW.PrintWords Go.Proofs.YteeghncofacmhaaW.PrintLast Go.Proofs.YteeghncofacmhaaW.PrintMore
attribute [local go_sem] max2_int min2_int max_two min_two max_three min_three max_four min_four   -- for this text's walks alone
set_option linter.unusedVariables false
set_option linter.unusedSimpArgs false
attribute [local go_sem high] eqA64
/-! ### impl_regionInside: function 104 -/
mutual
def impl_regionInside.j0 : Nat → List (S64) → Bool → Int → Int → List Int → List (S64) → List Int → Option (List Int × (List (S64)) × List Int)
  | 0, _, _, _, _, _, _, _ => none
  | k + 1, x0, x2, x102000, x102001, x107000, x107001, x107002 => impl_regionInside.l0 k x0 x2 x102000 x102000 x102001 x107000 x107001 x107002
def impl_regionInside.l0 : Nat → List (S64) → Bool → Int → Int → Int → List Int → List (S64) → List Int → Option (List Int × (List (S64)) × List Int)
  | 0, _, _, _, _, _, _, _, _ => none
  | k + 1, x0, x2, x8, x102000, x102001, x107000, x107001, x107002 => if x8 < x102001 then (impl_regionInside.l1 k x0 x2 x8 x8 x0 (x0.length : Int) 0 x102000 x102001 x107000 x107001 x107002) else (some (x107000, x107001, x107002))
def impl_regionInside.l1 : Nat → List (S64) → Bool → Int → Int → List (S64) → Int → Int → Int → Int → List Int → List (S64) → List Int → Option (List Int × (List (S64)) × List Int)
  | 0, _, _, _, _, _, _, _, _, _, _, _, _ => none
  | k + 1, x0, x2, x8, x9, x37, x38, x39, x102000, x102001, x107000, x107001, x107002 => if x39 < x38 then (if 0 ≤ x39 then (if x39 < (x37.length : Int) then (if ((rd_T64 x37 x39).f0) = x8 then (if ((rd_T64 x37 x39).f1) ≤ x102001 then (if ((rd_T64 x37 x39).f1) > x9 then (if x2 = true then (if ((((rd_T64 x37 x39).f0) == x102000 && (((rd_T64 x37 x39).f1) == x102001)) = true) then (impl_regionInside.l1 k x0 x2 x8 x9 x37 x38 (wrap64 (x39 + 1)) x102000 x102001 x107000 x107001 x107002) else (impl_regionInside.l1 k x0 x2 x8 ((rd_T64 x37 x39).f1) x37 x38 (wrap64 (x39 + 1)) x102000 x102001 x107000 x107001 x107002)) else (impl_regionInside.l1 k x0 x2 x8 ((rd_T64 x37 x39).f1) x37 x38 (wrap64 (x39 + 1)) x102000 x102001 x107000 x107001 x107002)) else (impl_regionInside.l1 k x0 x2 x8 x9 x37 x38 (wrap64 (x39 + 1)) x102000 x102001 x107000 x107001 x107002)) else (impl_regionInside.l1 k x0 x2 x8 x9 x37 x38 (wrap64 (x39 + 1)) x102000 x102001 x107000 x107001 x107002)) else (impl_regionInside.l1 k x0 x2 x8 x9 x37 x38 (wrap64 (x39 + 1)) x102000 x102001 x107000 x107001 x107002)) else (none)) else (none)) else (if x9 > x8 then (if x107001.length < 8796093022208 then (if x107000.length < 17592186044416 then (impl_regionInside.l0 k x0 x2 x9 x102000 x102001 (x107000 ++ [x9]) (x107001 ++ [(⟨x8, x9⟩ : S64)]) x107002) else (none)) else (none)) else (if x107002.length < 17592186044416 then (if x107000.length < 17592186044416 then (impl_regionInside.l0 k x0 x2 (wrap64 (x8 + 1)) x102000 x102001 (x107000 ++ [wrap64 (x8 + 1)]) x107001 (x107002 ++ [x8])) else (none)) else (none)))
end
def impl_regionInside.f (k : Nat) (l0 : List (S64)) (a1_0 : Int) (a1_1 : Int) (a2 : Bool) : Option (List Int × (List (S64)) × List Int) := (some (([a1_0] : List Int) : List Int)).bind fun y103 => (if a2 = true then (if ([] : List (S64)).length < 8796093022208 then (impl_regionInside.j0 k l0 a2 a1_0 a1_1 y103 (([] : List (S64)) ++ [(⟨a1_0, a1_1⟩ : S64)]) ([] : List Int)) else (none)) else (if ([] : List Int).length < 17592186044416 then (impl_regionInside.j0 k l0 a2 a1_0 a1_1 y103 ([] : List (S64)) (([] : List Int) ++ [a1_1])) else (none)))
end Go.Proofs.Yteeghncofacmhaa.Q
end
section
/- Crossings and regions' walks: plain laws on the printed functions. -/
namespace Go.Proofs.Yteeghncofacmhaa.Q
open Go.RowKit Go.Proofs.YteeghncofacmhaaW.PrintWords Go.Proofs.YteeghncofacmhaaW.PrintLast Go.Proofs.YteeghncofacmhaaW.PrintMore
set_option linter.unusedVariables false
set_option linter.unusedSimpArgs false
def crossP (c d : Ch) : Bool := decide (c.f0 < d.f0 ∧ d.f0 < c.f1 ∧ c.f1 < d.f1 ∨ d.f0 < c.f0 ∧ c.f0 < d.f1 ∧ d.f1 < c.f1)
theorem crossP_comm (c d : Ch) : crossP c d = crossP d c := by unfold crossP; rw [decide_eq_decide]; omega
theorem crossing_eq (c d : Ch) : impl_crossing.f c.f0 c.f1 d.f0 d.f1 = some (crossP c d) := by
  unfold impl_crossing.f crossP
  repeat' split
  all_goals congr 1
  all_goals first | (symm; rw [decide_eq_true_iff]; omega) | (symm; rw [decide_eq_false_iff_not]; omega) | (rw [decide_eq_decide]; omega)
theorem crossS_eq {c d : Ch} (hc : c.f0 < c.f1) (hd : d.f0 < d.f1) : crossS c.f0 c.f1 d.f0 d.f1 = crossP c d := by
  unfold crossS crossP; rw [decide_eq_decide]; omega
def cntPairs : List Ch → Nat
  | [] => 0
  | c :: r => r.countP (crossP c) + cntPairs r
theorem cntPairs_snoc (l : List Ch) (c : Ch) : cntPairs (l ++ [c]) = cntPairs l + l.countP (crossP c) := by
  induction l with
  | nil => rfl
  | cons d l ih =>
    simp only [List.cons_append, cntPairs, ih, List.countP_append, List.countP_cons, List.countP_nil]
    rw [crossP_comm c d]; omega
theorem cntPairs_le (l : List Ch) : cntPairs l ≤ l.length * l.length := by
  induction l with
  | nil => exact Nat.le_refl _
  | cons c l ih =>
    have := List.countP_le_length (p := crossP c) (l := l)
    simp only [cntPairs, List.length_cons, Nat.add_mul, Nat.mul_add]; omega
theorem crossed_l0 (l : List Ch) (c : Ch) (hn : l.length ≤ 1000000) : ∀ (d i x : Nat), i + d = l.length → x ≤ i →
    Ev (fun k => impl_crossed.l0 k (x : Int) l (l.length : Int) (i : Int) c.f0 c.f1) ((x + (l.drop i).countP (crossP c) : Nat) : Int) := by
  intro d
  induction d with
  | zero =>
    intro i x hd hx
    refine Ev.some_ fun k => ?_
    simp only [impl_crossed.l0]
    rw [if_neg (by omega), List.drop_eq_nil_of_le (by omega)]; rfl
  | succ d ih =>
    intro i x hd hx
    have hi : i < l.length := by omega
    rw [List.drop_eq_getElem_cons hi, List.countP_cons]
    cases hc : crossP c l[i] with
    | true =>
      refine Ev.step (f := fun k => impl_crossed.l0 k ((x + 1 : Nat) : Int) l (l.length : Int) ((i + 1 : Nat) : Int) c.f0 c.f1) (fun k => ?_) (ev_eq (ih (i + 1) (x + 1) (by omega) (by omega)) (by simp; omega))
      simp only [impl_crossed.l0]
      rw [if_pos (by omega), if_pos (by omega), if_pos (by omega), rdT_at hi, crossing_eq, Option.bind_some, hc, if_pos rfl, w64 hi (by omega), w64 (show x < l.length by omega) (by omega)]
    | false =>
      refine Ev.step (f := fun k => impl_crossed.l0 k (x : Int) l (l.length : Int) ((i + 1 : Nat) : Int) c.f0 c.f1) (fun k => ?_) (ev_eq (ih (i + 1) x (by omega) (by omega)) (by simp))
      simp only [impl_crossed.l0]
      rw [if_pos (by omega), if_pos (by omega), if_pos (by omega), rdT_at hi, crossing_eq, Option.bind_some, hc, if_neg (by simp), w64 hi (by omega)]
theorem crossed_ev (l : List Ch) (c : Ch) (hn : l.length ≤ 1000000) : Ev (fun k => impl_crossed.f k l c.f0 c.f1) (l.countP (crossP c) : Int) := by
  unfold impl_crossed.f
  exact ev_eq (crossed_l0 l c hn l.length 0 0 (by omega) (by omega)) (by simp)
theorem crossings_l0 (l : List Ch) (hn : l.length ≤ 1000000) : ∀ (d i : Nat), i + d = l.length →
    Ev (fun k => impl_crossings.l0 k l (cntPairs (l.take i) : Int) l (l.length : Int) (i : Int)) (cntPairs l : Int) := by
  intro d
  induction d with
  | zero =>
    intro i hd
    refine Ev.some_ fun k => ?_
    simp only [impl_crossings.l0]
    rw [if_neg (by omega), List.take_of_length_le (by omega)]
  | succ d ih =>
    intro i hd
    have hi : i < l.length := by omega
    have h1 : ∀ k, impl_crossings.l0 (k + 1) l (cntPairs (l.take i) : Int) l (l.length : Int) (i : Int) = (impl_crossed.f k (l.take i) l[i].f0 l[i].f1).bind fun t => impl_crossings.l0 k l (wrap64 ((cntPairs (l.take i) : Int) + t)) l (l.length : Int) ((i + 1 : Nat) : Int) := by
      intro k
      simp only [impl_crossings.l0]
      rw [if_pos (by omega), if_pos (by omega), if_pos (by omega), if_pos (by omega), rdT_at hi, w64 hi (by omega), Int.toNat_natCast]
    refine Ev.step h1 (Ev.bind (crossed_ev (l.take i) l[i] (by rw [List.length_take]; omega)) ?_)
    have h2 := cntPairs_le (l.take i)
    have h3 := List.countP_le_length (p := crossP l[i]) (l := l.take i)
    have h4 : (l.take i).length * (l.take i).length ≤ 1000000 * 1000000 := Nat.mul_le_mul (by rw [List.length_take]; omega) (by rw [List.length_take]; omega)
    rw [List.length_take] at h3
    have h5 : wrap64 ((cntPairs (l.take i) : Int) + ((l.take i).countP (crossP l[i]) : Int)) = (cntPairs (l.take (i + 1)) : Int) := by
      rw [List.take_succ_eq_append_getElem hi, cntPairs_snoc, w64s (by omega) (by omega)]; omega
    rw [h5]
    exact ih (i + 1) (by omega)
theorem crossings_ev (l : List Ch) (hn : l.length ≤ 1000000) : Ev (fun k => impl_crossings.f k l) (cntPairs l : Int) := by
  unfold impl_crossings.f
  exact crossings_l0 l hn l.length 0 (by omega)
/-! ### the pairs, as_ the reference lists them -/
def rowP (c : Ch) (i : Nat) : List Ch → Nat → List (List Int)
  | [], _ => []
  | d :: r, j => (if crossS c.f0 c.f1 d.f0 d.f1 = true then [[(i : Int), (j : Int)]] else []) ++ rowP c i r (j + 1)
def allP : List Ch → Nat → List (List Int)
  | [], _ => []
  | c :: r, i => rowP c i r (i + 1) ++ allP r (i + 1)
theorem rowP_length {c : Ch} (i : Nat) (hc : c.f0 < c.f1) : ∀ (l : List Ch) (j : Nat), (∀ d ∈ l, d.f0 < d.f1) → (rowP c i l j).length = l.countP (crossP c)
  | [], _, _ => rfl
  | d :: l, j, h => by
    have hd := h d List.mem_cons_self
    simp only [rowP, List.length_append, rowP_length i hc l (j + 1) (fun x hx => h x (List.mem_cons_of_mem _ hx)), List.countP_cons, crossS_eq hc hd]
    cases crossP c d <;> simp <;> omega
theorem rowP_le {c : Ch} (i : Nat) : ∀ (l : List Ch) (j : Nat), (rowP c i l j).length ≤ l.length
  | [], _ => Nat.le_refl _
  | d :: l, j => by
    have := rowP_le (c := c) i l (j + 1)
    simp only [rowP, List.length_append, List.length_cons]
    split <;> simp <;> omega
theorem allP_length : ∀ (l : List Ch) (i : Nat), (∀ d ∈ l, d.f0 < d.f1) → (allP l i).length = cntPairs l
  | [], _, _ => rfl
  | c :: l, i, h => by
    simp only [allP, List.length_append, cntPairs, allP_length l (i + 1) (fun x hx => h x (List.mem_cons_of_mem _ hx)), rowP_length i (h c List.mem_cons_self) l (i + 1) (fun x hx => h x (List.mem_cons_of_mem _ hx))]
theorem cdPairs_l1 (l : List Ch) (hn : l.length ≤ 1000000) (c : Ch) (i : Nat) (hi : i < l.length) (R : List (List Int)) (x : List (List Int)) (hx : ∀ m, m ≤ l.length → x.length + m ≤ 5000000000000)
    (hnext : Ev (fun k => spec_cdPairs.l0 k l (x ++ rowP c i (l.drop (i + 1)) (i + 1)) l (l.length : Int) ((i + 1 : Nat) : Int)) R) : ∀ (d j : Nat) (y : List (List Int)), j + d = l.length → y ++ rowP c i (l.drop j) j = x ++ rowP c i (l.drop (i + 1)) (i + 1) → y.length ≤ x.length + j →
    Ev (fun k => spec_cdPairs.l1 k l y (i : Int) (j : Int) l (l.length : Int) (i : Int) c.f0 c.f1) R := by
  intro d
  induction d with
  | zero =>
    intro j y hd hy _
    have hj : l.drop j = [] := List.drop_eq_nil_of_le (by omega)
    rw [hj] at hy
    simp only [rowP, List.append_nil] at hy
    refine Ev.step (f := fun k => spec_cdPairs.l0 k l y l (l.length : Int) ((i + 1 : Nat) : Int)) (fun k => ?_) (by rw [hy]; exact hnext)
    simp only [spec_cdPairs.l1]
    rw [if_neg (by omega), w64 hi (by omega)]
  | succ d ih =>
    intro j y hd hy hyl
    have hj : j < l.length := by omega
    rw [List.drop_eq_getElem_cons hj] at hy
    simp only [rowP] at hy
    cases hc : crossS c.f0 c.f1 l[j].f0 l[j].f1 with
    | true =>
      refine Ev.step (f := fun k => spec_cdPairs.l1 k l (y ++ [[(i : Int), (j : Int)]]) (i : Int) ((j + 1 : Nat) : Int) l (l.length : Int) (i : Int) c.f0 c.f1) (fun k => ?_) (ih (j + 1) (y ++ [[(i : Int), (j : Int)]]) (by omega) (by rw [← hy, hc, if_pos rfl, List.append_assoc]) (by simp; omega))
      have := hx j (by omega)
      simp only [spec_cdPairs.l1]
      rw [if_pos (by omega), if_pos (by omega), rdT_at hj]
      simp only [spec_srCross.f, Option.bind_some, hc, if_true]
      rw [if_pos (by omega), w64 hj (by omega)]
    | false =>
      refine Ev.step (f := fun k => spec_cdPairs.l1 k l y (i : Int) ((j + 1 : Nat) : Int) l (l.length : Int) (i : Int) c.f0 c.f1) (fun k => ?_) (ih (j + 1) y (by omega) (by rw [← hy, hc, if_neg (by simp), List.nil_append]) (by omega))
      simp only [spec_cdPairs.l1]
      rw [if_pos (by omega), if_pos (by omega), rdT_at hj]
      simp only [spec_srCross.f, Option.bind_some, hc, Bool.false_eq_true, if_false]
      rw [w64 hj (by omega)]
theorem cdPairs_l0 (l : List Ch) (hn : l.length ≤ 1000000) : ∀ (d i : Nat) (x : List (List Int)), i + d = l.length → x.length ≤ i * l.length →
    Ev (fun k => spec_cdPairs.l0 k l x l (l.length : Int) (i : Int)) (x ++ allP (l.drop i) i) := by
  intro d
  induction d with
  | zero =>
    intro i x hd hx
    refine Ev.some_ fun k => ?_
    simp only [spec_cdPairs.l0]
    rw [if_neg (by omega), List.drop_eq_nil_of_le (by omega)]
    simp [allP]
  | succ d ih =>
    intro i x hd hx
    have hi : i < l.length := by omega
    have hm : i * l.length ≤ 1000000 * 1000000 := Nat.mul_le_mul (by omega) (by omega)
    refine Ev.step (f := fun k => spec_cdPairs.l1 k l x (i : Int) ((i + 1 : Nat) : Int) l (l.length : Int) (i : Int) l[i].f0 l[i].f1) (fun k => ?_) ?_
    · simp only [spec_cdPairs.l0]
      rw [if_pos (by omega), if_pos (by omega), if_pos (by omega), rdT_at hi, w64 hi (by omega)]
    · rw [List.drop_eq_getElem_cons hi]
      simp only [allP]
      rw [← List.append_assoc]
      refine cdPairs_l1 l hn l[i] i hi _ x (fun m hm' => by omega) ?_ d (i + 1) x (by omega) rfl (by omega)
      refine ih (i + 1) _ (by omega) ?_
      have := rowP_le (c := l[i]) i (l.drop (i + 1)) (i + 1)
      rw [List.length_drop] at this
      rw [List.length_append, Nat.add_mul]; omega
theorem cdPairs_ev (l : List Ch) (hn : l.length ≤ 1000000) : Ev (fun k => spec_cdPairs.f k l) (allP l 0) := by
  unfold spec_cdPairs.f
  exact ev_eq (cdPairs_l0 l hn l.length 0 [] (by omega) (by simp)) (by simp)
theorem good_len {n : Int} {l : List Ch} (h : goodSet n l = true) : l.length ≤ 40 := by unfold goodSet at h; simp at h; exact h.2
theorem good_n {n : Int} {l : List Ch} (h : goodSet n l = true) : 3 ≤ n ∧ n ≤ 60 := by unfold goodSet at h; simp at h; exact h.1.1
theorem chk_ok {n : Int} : ∀ {l : List Ch} {p : Option Ch}, chk n p l = true → ∀ c ∈ l, 0 ≤ c.f0 ∧ c.f0 < c.f1 ∧ c.f1 < n
  | [], _, _, c, hc => by simp at hc
  | d :: l, p, h, c, hc => by
    simp only [chk, Bool.and_eq_true] at h
    rcases List.mem_cons.1 hc with rfl | hc
    · simpa [chOk] using h.1.1
    · exact chk_ok h.2 c hc
theorem good_ok {n : Int} {l : List Ch} (h : goodSet n l = true) : ∀ c ∈ l, 0 ≤ c.f0 ∧ c.f0 < c.f1 ∧ c.f1 < n := by
  unfold goodSet at h; simp only [Bool.and_eq_true] at h; exact chk_ok h.1.2
/-- A plane set. -/
def plane (n : Int) (l : List Ch) : Bool := goodSet n l && decide (cntPairs l = 0)
theorem rePlane_ev (n : Int) (l : List Ch) (hn : l.length ≤ 4611686018427387904) : Ev (fun k => spec_rePlane.f k n l) (plane n l) := by
  unfold spec_rePlane.f plane
  refine Ev.bind (cdGood_ev n l (by omega)) ?_
  cases hg : goodSet n l with
  | false => exact ev_eq (Ev.congr (fun k => by rw [if_neg (by simp)]) (Ev.now false)) (by simp)
  | true =>
    refine Ev.congr (f := fun k => (spec_cdPairs.f k l).bind fun t => some ((t.length : Int) == 0)) (fun k => by rw [if_pos rfl]) ?_
    refine Ev.bind (cdPairs_ev l (by have := good_len hg; omega)) (ev_eq (Ev.now _) ?_)
    rw [allP_length l 0 (fun d hd => (good_ok hg d hd).2.1)]
    simp; rw [Bool.eq_iff_iff]; simp
/-! ### slices.Compare -/
/-! ### regionInside -/
/-- The farthest point to which a chord leads from 'at_'. -/
def nextOf (hi : Int) (ex : Option Ch) (at_ : Int) : List Ch → Int → Int
  | [], nx => nx
  | d :: r, nx => nextOf hi ex at_ r (if d.f0 = at_ ∧ d.f1 ≤ hi ∧ nx < d.f1 ∧ ¬ some d = ex then d.f1 else nx)
/-- From 'at_' to the last point. -/
def fw (l : List Ch) (hi : Int) (ex : Option Ch) : Nat → Int → List Int × List Ch × List Int
  | 0, _ => ([], [], [])
  | n + 1, at_ => if at_ < hi then (if nextOf hi ex at_ l at_ > at_ then
      (nextOf hi ex at_ l at_ :: (fw l hi ex n (nextOf hi ex at_ l at_)).1, ⟨at_, nextOf hi ex at_ l at_⟩ :: (fw l hi ex n (nextOf hi ex at_ l at_)).2.1, (fw l hi ex n (nextOf hi ex at_ l at_)).2.2)
      else ((at_ + 1) :: (fw l hi ex n (at_ + 1)).1, (fw l hi ex n (at_ + 1)).2.1, at_ :: (fw l hi ex n (at_ + 1)).2.2)) else ([], [], [])
def exOf (c : Ch) (b : Bool) : Option Ch := if b = true then some c else none
def regionOf (l : List Ch) (c : Ch) (b : Bool) : List Int × List Ch × List Int :=
  (c.f0 :: (fw l c.f1 (exOf c b) (c.f1 - c.f0).toNat c.f0).1, (if b = true then [c] else []) ++ (fw l c.f1 (exOf c b) (c.f1 - c.f0).toNat c.f0).2.1, (if b = true then [] else [c.f1]) ++ (fw l c.f1 (exOf c b) (c.f1 - c.f0).toNat c.f0).2.2)
theorem nextOf_ge (hi : Int) (ex : Option Ch) (at_ : Int) : ∀ (l : List Ch) (nx : Int), nx ≤ nextOf hi ex at_ l nx
  | [], _ => Int.le_refl _
  | d :: l, nx => by
    simp only [nextOf]
    split
    · rename_i h; exact Int.le_trans (Int.le_of_lt h.2.2.1) (nextOf_ge hi ex at_ l _)
    · exact nextOf_ge hi ex at_ l nx
theorem nextOf_le (hi : Int) (ex : Option Ch) (at_ : Int) : ∀ (l : List Ch) (nx : Int), nx ≤ hi → nextOf hi ex at_ l nx ≤ hi
  | [], _, h => h
  | d :: l, nx, h => by
    simp only [nextOf]
    split
    · rename_i h2; exact nextOf_le hi ex at_ l _ h2.2.1
    · exact nextOf_le hi ex at_ l nx h
end Go.Proofs.Yteeghncofacmhaa.Q
end
section
/- A row of rows of whole numbers that the call itself has made, told by its pairs: the row's value and its list. No program is walked here. -/
namespace Go.Proofs.Yteeghncofacmhaa.Q
open Go.RowKit Go.Proofs.YteeghncofacmhaaW.PrintWords Go.Proofs.YteeghncofacmhaaW.PrintLast Go.Proofs.YteeghncofacmhaaW.PrintMore
set_option linter.unusedVariables false
theorem new_block (W : World) (o : Obj) : (W.alloc o).heap[W.heap.size]? = some o := by show (W.heap.push o)[W.heap.size]? = _; simp
theorem new_cell (W : World) (cs : Array Value) (t : TypeId) (j : Nat) : (W.alloc (.cells cs t)).cell? ⟨W.heap.size, j, none⟩ = cs[j]? := blk_cell (new_block W (.cells cs t)) j
/-- The rows themselves: each of the call's own, no two in one block. -/
def RowsP (W : World) (B : Nat) (ps : List (Value × List Int)) : Prop :=
  (∀ p ∈ ps, (Kd.int .i64).R 3 W B (fun _ => True) p.1 p.2) ∧ ps.Pairwise (fun p q => ∀ k, p.1.ownBlock = some k → q.1.ownBlock ≠ some k)
/-- The row that holds them. -/
def RowsO (W : World) (B : Nat) (v : Value) (ps : List (Value × List Int)) : Prop := (Kd.raw 1).R 24 W B (fun _ => True) v (ps.map fun p => [p.1])
theorem RowsP.below {W W1 : World} {B : Nat} {ps : List (Value × List Int)} (h : RowsP W B ps) (hb : Below W.heap.size W W1) : RowsP W1 B ps :=
  ⟨fun p hp => Kd.R_below (h.1 p hp) hb, h.2⟩
theorem RowsO.below {W W1 : World} {B : Nat} {v : Value} {ps : List (Value × List Int)} (h : RowsO W B v ps) (hb : Below W.heap.size W W1) : RowsO W1 B v ps := Kd.R_below h hb
theorem RowsP.lt {W : World} {B : Nat} {ps : List (Value × List Int)} (h : RowsP W B ps) {p : Value × List Int} (hp : p ∈ ps) {k : Nat} (hk : p.1.ownBlock = some k) : k < W.heap.size := Kd.R_lt (h.1 p hp) k hk
theorem RowsP.perm {W : World} {B : Nat} {ps qs : List (Value × List Int)} (h : RowsP W B ps) (hp : ps.Perm qs) : RowsP W B qs :=
  ⟨fun p hq => h.1 p (hp.mem_iff.2 hq), (hp.pairwise_iff (fun {a b} hab k hk he => hab k he hk)).1 h.2⟩
theorem RowsP.sub {W : World} {B : Nat} {ps qs : List (Value × List Int)} (h : RowsP W B ps) (hp : qs.Sublist ps) : RowsP W B qs :=
  ⟨fun p hq => h.1 p (hp.subset hq), h.2.sublist hp⟩
theorem RowsP.one {W : World} {B : Nat} {u : Value} {r : List Int} (h : (Kd.int .i64).R 3 W B (fun _ => True) u r) : RowsP W B [(u, r)] :=
  ⟨fun p hp => by rw [List.mem_singleton.1 hp]; exact h, List.pairwise_singleton _ _⟩
/-- One more row ahead of the others: its block is none of theirs. -/
theorem RowsP.cons {W : World} {B : Nat} {ps : List (Value × List Int)} (h : RowsP W B ps) {u : Value} {r : List Int} (hu : (Kd.int .i64).R 3 W B (fun _ => True) u r)
    (ha : ∀ p ∈ ps, ∀ k, u.ownBlock = some k → p.1.ownBlock ≠ some k) : RowsP W B ((u, r) :: ps) :=
  ⟨fun p hp => by 
    rcases List.mem_cons.1 hp with rfl | hp
    · exact hu
    · exact h.1 p hp, List.pairwise_cons.2 ⟨fun p hp => ha p hp, h.2⟩⟩
/-- A region is parted: the two new rows lie in blocks that are new, and apart. -/
theorem RowsP.parted {W0 W : World} {B : Nat} {ps : List (Value × List Int)} {i : Nat} (h : RowsP W0 B ps) (hb : Below W0.heap.size W0 W) {u1 u2 : Value} {r1 r2 : List Int}
    (h1 : (Kd.int .i64).R 3 W W0.heap.size (fun k => some k ≠ u2.ownBlock) u1 r1) (h2 : (Kd.int .i64).R 3 W W0.heap.size (fun k => some k ≠ u1.ownBlock) u2 r2) (hB : B ≤ W0.heap.size) :
    RowsP W B (ps.take i ++ [(u1, r1), (u2, r2)] ++ ps.drop (i + 1)) := by
  have hold : RowsP W B (ps.take i ++ ps.drop (i + 1)) := (h.sub (by
    have := List.Sublist.append (List.Sublist.refl (ps.take i)) (List.drop_sublist_drop_left ps (Nat.le_succ i))
    rwa [List.take_append_drop] at this)).below hb
  have e1 : ∀ p ∈ ps.take i ++ ps.drop (i + 1), ∀ k, p.1.ownBlock = some k → k < W0.heap.size := fun p hp k hk => by
    have hm : p ∈ ps := by
      rcases List.mem_append.1 hp with hp | hp
      · exact List.mem_of_mem_take hp
      · exact List.mem_of_mem_drop hp
    exact h.lt hm hk
  have h2' := hold.cons (u := u2) (r := r2) (Kd.R_mono (Kd.R_lower h2 hB) (fun _ _ => trivial)) (fun p hp k hk he => by have := e1 p hp k he; have := Kd.R_base h2 k hk; omega)
  have h3' := h2'.cons (u := u1) (r := r1) (Kd.R_mono (Kd.R_lower h1 hB) (fun _ _ => trivial)) (fun p hp k hk he => by
    rcases List.mem_cons.1 hp with rfl | hp
    · exact h2.1 k he hk.symm
    · have := e1 p hp k he; have := Kd.R_base h1 k hk; omega)
  refine h3'.perm ?_
  rw [List.append_assoc]
  exact (List.perm_append_comm_assoc [(u1, r1), (u2, r2)] (ps.take i) (ps.drop (i + 1))).trans (List.Perm.refl _)
/-- A row of rows that holds one row, as_ a literal lays it. -/
theorem RowsO.one {W : World} {B : Nat} (u : Value) (r : List Int) (h1 : u.oneCell' = true) (hB : B ≤ W.heap.size) :
    RowsO (W.alloc (.cells #[u] 24)) B (.slice (some ⟨W.heap.size, 0, none⟩) 1 1) [(u, r)] := by
  refine ⟨fun _ _ => trivial, [u], World.ownsRow_lit W #[u] 1 hB (by decide) rfl, Reps.one (⟨rfl, rfl, fun x hx => by rw [List.mem_singleton.1 hx]; exact h1⟩) (Reps.none _ _)⟩
theorem RowsO.slice {W : World} {B : Nat} {v : Value} {ps : List (Value × List Int)} (h : RowsO W B v ps) : ∃ A c, v = .slice A ps.length c ∧ ps.length ≤ c ∧ (Kd.raw 1).C W A ps.length (ps.map fun p => [p.1]) := by
  obtain ⟨A, c, he, hl, hc⟩ := Kd.R_reads h
  rw [List.length_map] at he hl hc
  exact ⟨A, c, he, hl, hc⟩
/-- One of the rows, as_ it is read. -/
theorem RowsO.get {W : World} {B : Nat} {A : Option Addr} {n : Nat} {ps : List (Value × List Int)} (hP : RowsP W B ps) (hC : (Kd.raw 1).C W A n (ps.map fun p => [p.1])) (i : Nat) (hi : i < ps.length) (hn : n = ps.length) :
    ∃ ad A0 c0, A = some ad ∧ W.cell? (ad.add i) = some (.slice A0 (ps[i].2).length c0) ∧ ps[i].1 = .slice A0 (ps[i].2).length c0 ∧ (ps[i].2).length ≤ c0 ∧ (Kd.int .i64).C W A0 (ps[i].2).length ps[i].2 := by
  subst hn
  obtain ⟨ad, cs, e, hl, hK, hc⟩ := Kd.C_get hC [] (i : Int) (by omega) (by omega)
  obtain ⟨A0, c0, he, hl0, hC0⟩ := Kd.R_reads (hP.1 ps[i] (List.getElem_mem hi))
  have h1 : (ps.map fun p => [p.1]).getD (i : Int).toNat [] = [ps[i].1] := by
    simp [List.getD_eq_getElem?_getD, List.getElem?_map, List.getElem?_eq_getElem hi]
  rw [h1] at hK
  obtain ⟨rfl, _, _⟩ := hK
  refine ⟨ad, A0, c0, e, ?_, he, hl0, hC0⟩
  have := hc 0 ps[i].1 rfl
  rw [he] at this
  simpa [Kd.raw] using this
/-- As the print tells such a row: no two of its rows lie in one block. -/
theorem RowsO.S {W : World} {B : Nat} {v : Value} {ps : List (Value × List Int)} (hP : RowsP W B ps) (hO : RowsO W B v ps) : Kd.S (Kd.slice 3 (Kd.int .i64)) 24 W B (fun _ => True) v (ps.map Prod.snd) := by
  obtain ⟨_, inner, ho, hr⟩ := id hO
  have hty : ∀ k, v.ownBlock = some k → ∃ cells, W.heap[k]? = some (.cells cells 24 (0, 0)) := fun k hk => Kd.R_typed hO k hk
  refine ⟨fun k => ps.findIdx (fun p => decide (p.1.ownBlock = some k)), fun _ _ => trivial, inner, ?_, ?_, ?_⟩
  · have hl : (ps.map fun p => [p.1]).length = (ps.map Prod.snd).zipIdx.length := by simp
    rw [← hl]; exact ho
  · rw [hr.1]; simp [Kd.tag, Kd.slice, Kd.raw]
  · intro j p hj
    rw [List.getElem?_zipIdx, List.getElem?_map] at hj
    rcases Nat.lt_or_ge j ps.length with hlt | hge
    · rw [List.getElem?_eq_getElem hlt] at hj
      simp only [Option.map_some, Option.some.injEq] at hj
      subst hj
      have h2 := hr.2 j [ps[j].1] (by rw [List.getElem?_map, List.getElem?_eq_getElem hlt]; rfl)
      obtain ⟨h3, _, _⟩ := h2
      have h4 : ((inner.drop (j * 1)).take 1) = [ps[j].1] := h3
      show ∃ u, _ = [u] ∧ _
      refine ⟨ps[j].1, h4, ?_⟩
      have hR := hP.1 ps[j] (List.getElem_mem hlt)
      have hR1 := Kd.R_apart' (v := v) hR hty (by decide)
      have hR2 := Kd.R_tight rfl hR1
      refine Kd.R_mono hR2 (fun k hk => ⟨⟨trivial, fun he => ?_⟩, ?_⟩)
      · exact (hR1.1 k hk.symm).2 he
      · show ps.findIdx _ = 0 + j
        rw [Nat.zero_add, List.findIdx_eq hlt]
        refine ⟨by simpa using hk.symm, fun i hi => ?_⟩
        have := List.pairwise_iff_getElem.1 hP.2 i j (by omega) hlt hi
        simp only [decide_eq_false_iff_not]
        intro he
        exact this k he hk.symm
    · rw [List.getElem?_eq_none hge] at hj; cases hj
/-- 'xs[m:]' of a row of one cell each, the capacity's case aside. -/
theorem cut_row {P : Program} (t e : TypeId) {i : TypeInfo} (ht : P.underlying t = some (.slice e)) (hi : P.info? e = some i) (hsz : i.size = 1) (A : Option Addr) (n c m : Nat) (hm : m ≤ n) (hc : n ≤ c) :
    ∃ A' : Option Addr, (∀ W : World, (Instr.slice t (.slice A n c) (some (.int .i64 (m : Int))) none none).run P W = .ok (.slice A' (n - m) (c - m)) W) ∧
      ∀ {α : Type} (d : Kd α) (W : World) (xs : List α), d.sz = 1 → d.C W A n xs → d.C W A' (n - m) (xs.drop m) := by
  refine ⟨if c = m then A else A.map (·.add m), fun W => ?_, fun d W xs hd h => ?_⟩
  · have hel : P.elem t = e := by simp [Program.elem, ht]
    have hu : P.underlying t = some (.slice (P.elem t)) := by rw [hel]; exact ht
    rw [run_slice_l W t A n c hu .i64 (m : Int) (Int.natCast_nonneg _) (by omega), hel]
    simp [sizeOf, typeInfo, hi, hsz, sliced, Result.andThen]
  · have hn : xs.length = n := h.1
    subst hn
    have := Kd.C_drop h hm hc
    rw [hd, Nat.mul_one] at this
    rwa [List.length_drop] at this
theorem cut_row' {P : Program} (t e : TypeId) {i : TypeInfo} (ht : P.underlying t = some (.slice e)) (hi : P.info? e = some i) (hsz : i.size = 1) (A : Option Addr) (n c m : Nat) (z : Int) (hz : z = (m : Int)) (hm : m ≤ n) (hc : n ≤ c) :
    ∃ A' : Option Addr, (∀ W : World, (Instr.slice t (.slice A n c) (some (.int .i64 z)) none none).run P W = .ok (.slice A' (n - m) (c - m)) W) ∧
      ∀ {α : Type} (d : Kd α) (W : World) (xs : List α), d.sz = 1 → d.C W A n xs → d.C W A' (n - m) (xs.drop m) := by
  subst hz
  exact cut_row t e ht hi hsz A n c m hm hc
/-- 'xs[:m]', whatever the address. -/
theorem take_cut {P : Program} (t e : TypeId) {i : TypeInfo} (ht : P.underlying t = some (.slice e)) (hi : P.info? e = some i) (hsz : i.size = 1) (A : Option Addr) (n c m : Nat) (z : Int) (hz : z = (m : Int)) (hm : m ≤ c) :
    ∀ W : World, (Instr.slice t (.slice A n c) none (some (.int .i64 z)) none).run P W = .ok (.slice A m c) W := by
  subst hz
  intro W
  have hel : P.elem t = e := by simp [Program.elem, ht]
  have hu : P.underlying t = some (.slice (P.elem t)) := by rw [hel]; exact ht
  rw [run_slice_h W t A n c hu .i64 (m : Int) (Int.natCast_nonneg _) (by omega), hel]
  cases A <;> simp [sizeOf, typeInfo, hi, hsz, sliced, Result.andThen, Addr.add]
theorem take_row {α : Type} (d : Kd α) {W : World} {A : Option Addr} {n m : Nat} {xs : List α} (h : d.C W A n xs) (hm : m ≤ n) : d.C W A m (xs.take m) := by
  have hn : xs.length = n := h.1
  subst hn
  have := Kd.C_take h hm
  rwa [List.length_take, Nat.min_eq_left hm] at this
theorem below_alloc2 {w W : World} (h : Below w.heap.size w W) (o : Obj) : Below w.heap.size w (W.alloc o) := h.alloc h.size o
/-- Two values in a new block, read as_ a row. -/
theorem two_row (W : World) (u1 u2 : Value) (t : TypeId) (h1 : u1.oneCell' = true) (h2 : u2.oneCell' = true) : (Kd.raw 1).C (W.alloc (.cells #[u1, u2] t)) (some ⟨W.heap.size, 0, none⟩) 2 [[u1], [u2]] := by
  have h : (Kd.raw 1).R t (W.alloc (.cells #[u1, u2] t)) 0 (fun _ => True) (.slice (some ⟨W.heap.size, 0, none⟩) 2 2) [[u1], [u2]] :=
    ⟨fun _ _ => trivial, [u1, u2], World.ownsRow_lit W #[u1, u2] 2 (Nat.zero_le _) (by decide) rfl, Reps.one ⟨rfl, rfl, fun x hx => by rw [List.mem_singleton.1 hx]; exact h1⟩ (Reps.one ⟨rfl, rfl, fun x hx => by rw [List.mem_singleton.1 hx]; exact h2⟩ (Reps.none _ _))⟩
  exact (Kd.R_reads' h).2.2
theorem one_row (W : World) (u1 : Value) (t : TypeId) (h1 : u1.oneCell' = true) : (Kd.raw 1).C (W.alloc (.cells #[u1] t)) (some ⟨W.heap.size, 0, none⟩) 1 [[u1]] := by
  have h : (Kd.raw 1).R t (W.alloc (.cells #[u1] t)) 0 (fun _ => True) (.slice (some ⟨W.heap.size, 0, none⟩) 1 1) [[u1]] :=
    ⟨fun _ _ => trivial, [u1], World.ownsRow_lit W #[u1] 1 (Nat.zero_le _) (by decide) rfl, Reps.one ⟨rfl, rfl, fun x hx => by rw [List.mem_singleton.1 hx]; exact h1⟩ (Reps.none _ _)⟩
  exact (Kd.R_reads' h).2.2
theorem none_row (W : World) (B : Nat) (t : TypeId) (hB : B ≤ W.heap.size) : (Kd.raw 1).R t (W.alloc (.cells #[] t)) B (fun _ => True) (.slice (some ⟨W.heap.size, 0, none⟩) 0 0) [] :=
  ⟨fun _ _ => trivial, [], World.ownsRow_lit W #[] 0 hB (by decide) rfl, Reps.none _ _⟩
end Go.Proofs.Yteeghncofacmhaa.Q
end
section
/- spec.reList by hand: what it computes, and that the machine computes it. -/
namespace Go.Proofs.Yteeghncofacmhaa.Q
open Go.RowKit Go.Proofs.YteeghncofacmhaaW.PrintWords Go.Proofs.YteeghncofacmhaaW.PrintLast Go.Proofs.YteeghncofacmhaaW.PrintMore
attribute [local go_sem] max2_int min2_int max_two min_two max_three min_three max_four min_four
def reIn (a b : Int) (r : List Int) : List Int := r.filter fun p => decide (a ≤ p ∧ p ≤ b)
def reOut (a b : Int) (r : List Int) : List Int := r.filter fun p => decide (p ≤ a ∨ b ≤ p)
def reHit (a b : Int) (r : List Int) : Bool := r.contains a && r.contains b
/-- A chord parts the first region that has both its points. -/
def reStep (rs : List (List Int)) (c : S64) : List (List Int) :=
  match rs.findIdx? (reHit c.f0 c.f1) with
  | none => rs
  | some i => rs.take i ++ [reIn c.f0 c.f1 (rs.getD i []), reOut c.f0 c.f1 (rs.getD i [])] ++ rs.drop (i + 1)
/-- The place of a region among those in order: behind all that are not greater, from the end. -/
def rePos (r : List Int) (out : List (List Int)) : Nat := out.length - (out.reverse.takeWhile (fun q => lexLt r q)).length
def rePut (out : List (List Int)) (r : List Int) : List (List Int) := out.take (rePos r out) ++ [r] ++ out.drop (rePos r out)
def reRegions (n : Nat) (l : List S64) : List (List Int) := (l.foldl reStep [(List.range n).map Int.ofNat]).foldl rePut []
def spec_reList.f (a0 : Int) (l1 : List S64) : Option (List (List Int)) := if a0 ≤ 60 ∧ l1.length ≤ 40 then some (reRegions a0.toNat l1) else none
theorem reStep_len {m : Nat} {rs : List (List Int)} (h : ∀ r ∈ rs, r.length ≤ m) (c : S64) : ∀ r ∈ reStep rs c, r.length ≤ m := by
  unfold reStep
  cases hf : rs.findIdx? (reHit c.f0 c.f1) with
  | none => exact h
  | some i =>
    have hi : i < rs.length := (List.findIdx?_eq_some_iff_findIdx_eq.1 hf).1
    intro r hr
    have hg : (rs.getD i []).length ≤ m := by
      rw [List.getD_eq_getElem?_getD, List.getElem?_eq_getElem hi]
      exact h _ (List.getElem_mem hi)
    simp only [List.mem_append, List.mem_cons, List.not_mem_nil, or_false] at hr
    rcases hr with (hr | rfl | rfl) | hr
    · exact h r (List.mem_of_mem_take hr)
    · exact Nat.le_trans (List.length_filter_le _ _) hg
    · exact Nat.le_trans (List.length_filter_le _ _) hg
    · exact h r (List.mem_of_mem_drop hr)
theorem reSteps_len {m : Nat} (l : List S64) : ∀ {rs : List (List Int)}, (∀ r ∈ rs, r.length ≤ m) → ∀ r ∈ l.foldl reStep rs, r.length ≤ m := by
  induction l with
  | nil => exact fun h => h
  | cons c l ih => exact fun h => ih (reStep_len h c)
theorem reStep_at {ps : List (Value × List Int)} {i : Nat} (hi : i < ps.length) (c : S64) (hno : ∀ q ∈ ps.take i, reHit c.f0 c.f1 q.2 = false) (hh : reHit c.f0 c.f1 ps[i].2 = true) (u1 u2 : Value) :
    reStep (ps.map Prod.snd) c = (ps.take i ++ [(u1, reIn c.f0 c.f1 ps[i].2), (u2, reOut c.f0 c.f1 ps[i].2)] ++ ps.drop (i + 1)).map Prod.snd := by
  have hf : (ps.map Prod.snd).findIdx? (reHit c.f0 c.f1) = some i := by
    rw [List.findIdx?_eq_some_iff_getElem]
    refine ⟨by simpa using hi, by simpa using hh, fun j hj => ?_⟩
    have hm : ps[j] ∈ ps.take i := List.mem_iff_getElem.2 ⟨j, by simp; omega, by simp⟩
    simpa using hno _ hm
  unfold reStep
  rw [hf]
  simp [List.map_take, List.map_drop, List.getD_eq_getElem?_getD, List.getElem?_map, List.getElem?_eq_getElem hi]
theorem reStep_no {ps : List (Value × List Int)} (c : S64) (hno : ∀ q ∈ ps, reHit c.f0 c.f1 q.2 = false) : reStep (ps.map Prod.snd) c = ps.map Prod.snd := by
  have hf : (ps.map Prod.snd).findIdx? (reHit c.f0 c.f1) = none := by
    rw [List.findIdx?_eq_none_iff]
    intro x hx
    obtain ⟨q, hq, rfl⟩ := List.mem_map.1 hx
    exact hno q hq
  unfold reStep
  rw [hf]
theorem rePos_eq {r : List Int} {qs : List (List Int)} {t : Nat} (ht : t ≤ qs.length) (hall : ∀ x ∈ qs.drop t, lexLt r x = true) (hlast : ∀ s, t = s + 1 → lexLt r (qs.getD s []) = false) : rePos r qs = t := by
  have h1 : qs.reverse = (qs.drop t).reverse ++ (qs.take t).reverse := by rw [← List.reverse_append, List.take_append_drop]
  have h2 : ((qs.take t).reverse.takeWhile (fun q => lexLt r q)) = [] := by
    rcases Nat.eq_zero_or_pos t with h0 | h0
    · subst h0; rfl
    · obtain ⟨s, rfl⟩ : ∃ s, t = s + 1 := ⟨t - 1, by omega⟩
      have hs : s < qs.length := by omega
      rw [List.take_succ_eq_append_getElem hs, List.reverse_append]
      have := hlast s rfl
      rw [List.getD_eq_getElem?_getD, List.getElem?_eq_getElem hs] at this
      simp only [List.reverse_cons, List.reverse_nil, List.nil_append, List.cons_append]
      rw [List.takeWhile_cons_of_neg]
      simpa using this
  unfold rePos
  rw [h1, List.takeWhile_append_of_pos (fun x hx => hall x (List.mem_reverse.1 hx)), h2, List.append_nil, List.length_reverse, List.length_drop]
  omega
theorem rePut_at {ps : List (Value × List Int)} {r : List Int} {t : Nat} (ht : t ≤ ps.length) (hall : ∀ x ∈ ps.drop t, lexLt r x.2 = true) (hlast : ∀ s (hs : s < ps.length), t = s + 1 → lexLt r ps[s].2 = false) (u : Value) :
    rePut (ps.map Prod.snd) r = (ps.take t ++ [(u, r)] ++ ps.drop t).map Prod.snd := by
  unfold rePut
  rw [rePos_eq (t := t) (by simpa using ht) (fun x hx => by
    rw [← List.map_drop] at hx
    obtain ⟨q, hq, rfl⟩ := List.mem_map.1 hx
    exact hall q hq) (fun s hs => by
    have hsl : s < ps.length := by omega
    rw [List.getD_eq_getElem?_getD, List.getElem?_map, List.getElem?_eq_getElem hsl]
    exact hlast s hsl hs)]
  simp [List.map_take, List.map_drop]
theorem take_foldl {α : Type} {f : α → S64 → α} {l : List S64} {j : Nat} (hj : j < l.length) {c : S64} (hc : rd_T64 l (j : Int) = c) {x : α} : f ((l.take j).foldl f x) c = (l.take (j + 1)).foldl f x := by
  have h1 : l[j] = c := by
    rw [← hc]; simp [rd_T64, List.getD_eq_getElem?_getD, List.getElem?_eq_getElem hj]
  rw [List.take_succ_eq_append_getElem hj, List.foldl_append, h1]; rfl
set_option linter.unusedVariables false
set_option maxHeartbeats 8000000 in
set_option maxRecDepth 100000 in
theorem spec_reList.calls (a0 : Int) (A1 : Option Addr) (c1 : Nat) (l1 : List S64) (r : List (List Int)) (w : World) (hr1 : Kd.C k64 w A1 l1.length l1) (hc1 : l1.length ≤ c1) (h : spec_reList.f a0 l1 = some r) :
    Calls Try.prog 57 #[.int .i64 a0, .slice A1 l1.length c1] w fun e w' => ∃ v0_ : Value, e = .returned (v0_) ∧ Kd.S (Kd.slice 3 (Kd.int .i64)) 24 w' w.heap.size (fun _ => True) v0_ r ∧ Below w.heap.size w w' := by
  have hu64 := Try.underlying64
  have HR1 := Aside0.mk hr1
  have HC1 := Aside0.mk hc1
  clear hr1 hc1
  unfold spec_reList.f at h
  have hb : a0 ≤ 60 ∧ l1.length ≤ 40 := by
    by_cases hb : a0 ≤ 60 ∧ l1.length ≤ 40
    · exact hb
    · rw [if_neg hb] at h; cases h
  rw [if_pos hb] at h
  have H := Aside0.mk (Option.some.inj h)
  clear h
  obtain ⟨hb0, hb1⟩ := hb
  have HB1 := Aside0.mk hb1
  clear hb1
  go_enter Try.func57, Try.ntmps57
  go_wp2
  go_loopw [5, 6] (fun v5 v6 wr => ∃ k : Nat, v6 = .int .i64 (k : Int) ∧ Aside0 (k ≤ a0.toNat) ∧ Aside0 ((Kd.int .i64).R 3 wr w.heap.size (fun _ => True) v5 ((List.range k).map Int.ofNat)) ∧ Aside0 (Below w.heap.size w wr)) (fun _ v6 _ => a0.toNat - (intOf v6).toNat)
  case atStart => exact ⟨0, rfl, ⟨Nat.zero_le _⟩, ⟨Kd.R_nil _ _ _ _ _⟩, ⟨Below.refl _ _⟩⟩
  case round =>
    obtain ⟨k, rfl, hk, HO, HB⟩ := hrel
    replace hk := hk.out
    by_cases hlt : (k : Int) < a0
    · have hl : decide ((k : Int) < a0) = true := decide_eq_true hlt
      go_wp2_with (((with_reducible refine gate_builtin (b := .append) (xs := #[.tmp 27, .tmp 29]) rfl ?_); at_builtin; refine Kd.R_append (Kd.int .i64) (w0 := w) w.heap.size rfl (.tmp 27) (.tmp 29) 24 3 (.int .i64 0) 8 rfl Try.underlying24 info3 rfl (by decide) (by omega) _ ((List.range k).map Int.ofNat) (k : Int) [.int .i64 (k : Int)] (fun _ => True) (fun _ => False) rfl rfl rfl (fun _ hk => hk.elim) (fun _ _ => trivial) HO.out HB.out HB.out.size ?aL ?_; (case aL => simp; omega); intro v1 w1 ho1 hb1 hg1 ha1; have HO1 := Aside0.mk ho1; have HB1 := Aside0.mk hb1; clear ho1 hb1 hg1 ha1))
      go_roundw
      case rel => exact ⟨k + 1, by go_num, ⟨by omega⟩, ⟨by rw [List.range_succ, List.map_append]; exact HO1.out⟩, HB1⟩
      case measure => simp [intOf]; omega
    · have hl : decide ((k : Int) < a0) = false := decide_eq_false hlt
      have hk2 := Aside0.mk (show k = a0.toNat by omega)
      clear hlt hk
      have hrg : ∃ rg : List Int, rg = (List.range k).map Int.ofNat := ⟨_, rfl⟩
      obtain ⟨rg, hrg⟩ := hrg
      rw [← hrg] at HO
      replace hrg := Aside0.mk hrg
      obtain ⟨A5, c5, e5⟩ := Kd.R_slice HO.out
      subst e5
      go_wp2_with fail
      have P0 : RowsP wr w.heap.size [(.slice A5 rg.length c5, rg)] := RowsP.one HO.out
      have O1 := Aside0.mk (RowsO.one (W := wr) (B := w.heap.size) (.slice A5 rg.length c5) rg rfl HB.out.size)
      have P1 := Aside0.mk (P0.below (below_alloc (Below.refl _ _) (.cells #[.slice A5 rg.length c5] 24)))
      have B1 := Aside0.mk (HB.out.alloc HB.out.size (.cells #[.slice A5 rg.length c5] 24))
      clear P0
      clear HO HB
      go_loopw [7, 35] (fun v7 v35 wr => ∃ (j : Nat) (ps : List (Value × List Int)), v35 = .int .i64 (j : Int) ∧ Aside0 (j ≤ l1.length) ∧ Aside0 (ps.map Prod.snd = (l1.take j).foldl reStep [rg]) ∧ Aside0 (ps.length ≤ j + 1) ∧ Aside0 (RowsP wr w.heap.size ps) ∧ Aside0 (RowsO wr w.heap.size v7 ps) ∧ Aside0 (Below w.heap.size w wr)) (fun _ v35 _ => l1.length - (intOf v35).toNat)
      case atStart => exact ⟨0, _, rfl, ⟨Nat.zero_le _⟩, ⟨rfl⟩, ⟨Nat.le_refl _⟩, P1, O1, B1⟩
      case round =>
        clear P1 O1 B1 hl
        obtain ⟨j, ps, rfl, hj, hps, hpl, HP, HO, HB⟩ := hrel
        replace hj := hj.out
        have hb2 := HB1.out
        obtain ⟨A7, c7, e7, hc7, HC⟩ := HO.out.slice
        subst e7
        replace hc7 := Aside0.mk hc7
        replace HC := Aside0.mk HC
        by_cases hlt : j < l1.length
        · have hl : decide ((j : Int) < (l1.length : Int)) = true := decide_eq_true (by omega)
          obtain ⟨ad, ea, hx0, hx1⟩ := at_T64 HR1.out (j : Int) (by omega) (by omega)
          cases ea
          replace hx0 := (HB.out.cell (World.block_lt_of_cell? w _ hx0)).trans hx0
          replace hx1 := (HB.out.cell (World.block_lt_of_cell? w _ hx1)).trans hx1
          rw [Int.toNat_natCast] at hx0 hx1
          generalize hc : rd_T64 l1 (j : Int) = ch at hx0 hx1
          replace hc := Aside0.mk hc
          go_wp2_with fail
          have hgB : w.heap.size ≤ wr.heap.size := HB.out.size
          have k0 : (wr.alloc (.cells #[.int .i64 ch.f0, .int .i64 ch.f1] 64)).cell? ⟨wr.heap.size, 0, none⟩ = some (.int .i64 ch.f0) := new_cell _ _ _ 0
          have k1 : (wr.alloc (.cells #[.int .i64 ch.f0, .int .i64 ch.f1] 64)).cell? ⟨wr.heap.size, 1, none⟩ = some (.int .i64 ch.f1) := new_cell _ _ _ 1
          have kz : wr.heap.size < (wr.alloc (.cells #[.int .i64 ch.f0, .int .i64 ch.f1] 64)).heap.size := by simp
          have kb : Below wr.heap.size wr (wr.alloc (.cells #[.int .i64 ch.f0, .int .i64 ch.f1] 64)) := (Below.refl _ _).alloc (Nat.le_refl _) _
          generalize wr.alloc (.cells #[.int .i64 ch.f0, .int .i64 ch.f1] 64) = wc at k0 k1 kz kb ⊢
          have HPc := Aside0.mk (HP.out.below kb)
          have HOc := Aside0.mk (HO.out.below kb)
          have HCc := Aside0.mk (Kd.C_below HC.out kb)
          have HBc := Aside0.mk (below_then HB.out hgB kb)
          have K0 := Aside0.mk k0
          have K1 := Aside0.mk k1
          have KB := Aside0.mk kb
          clear k0 k1 kb hx0 hx1 HP HO HC HB
          generalize wr.heap.size = g at hgB kz K0 K1 KB ⊢
          go_loopw [7, 41] (fun v7 v41 wi => ∃ i : Nat, v7 = .slice A7 ps.length c7 ∧ v41 = .int .i64 (i : Int) ∧ Aside0 (i ≤ ps.length) ∧ Aside0 (∀ q ∈ ps.take i, reHit ch.f0 ch.f1 q.2 = false) ∧ Aside0 (Below wc.heap.size wc wi)) (fun _ v41 _ => ps.length - (intOf v41).toNat)
          case atStart => exact ⟨0, rfl, rfl, ⟨Nat.zero_le _⟩, ⟨fun q hq => by simp at hq⟩, ⟨Below.refl _ _⟩⟩
          case round =>
            obtain ⟨i, rfl, rfl, hi, hno, HW⟩ := hrel
            replace hi := hi.out
            have hpl3 := hpl.out
            by_cases hlt3 : i < ps.length
            · have hl3 : decide ((i : Int) < (ps.length : Int)) = true := decide_eq_true (by omega)
              obtain ⟨ad7, A0, c0, ea7, hcell, hv0, hl0, hC0⟩ := RowsO.get (HPc.out.below HW.out) (Kd.C_below HCc.out HW.out) i hlt3 rfl
              cases ea7
              have k0 := (HW.out.cell (World.block_lt_of_cell? wc _ K0.out)).trans K0.out
              have k1 := (HW.out.cell (World.block_lt_of_cell? wc _ K1.out)).trans K1.out
              have ht : ps.take (i + 1) = ps.take i ++ [ps[i]] := List.take_succ_eq_append_getElem hlt3
              replace ht := Aside0.mk ht
              generalize hp : ps[i] = pi at hcell hv0 hl0 hC0 ht
              replace hp := Aside0.mk hp
              have hp60 : pi.2.length ≤ 60 := by
                have h1 : pi.2 ∈ ps.map Prod.snd := List.mem_map.2 ⟨pi, by rw [← hp.out]; exact List.getElem_mem hlt3, rfl⟩
                rw [hps.out] at h1
                have h2 := reSteps_len (m := rg.length) (l1.take j) (rs := [rg]) (fun r hr => by rw [List.mem_singleton.1 hr]; exact Nat.le_refl _) pi.2 h1
                have h3 : rg.length = k := by rw [hrg.out]; simp
                have := hk2.out
                omega
              have hn62 : pi.2.length ≤ 4611686018427387904 := by omega
              have hq0 : Calls Try.prog 69 #[.slice A0 pi.2.length c0, .int .i64 ch.f0] wr fun e w'' => e = .returned (.bool (pi.2.contains ch.f0)) ∧ Drawn0 wr w'' :=
                spec_l1Has.calls _ _ _ _ _ _ _ hC0 hl0 (l1Has_ev pi.2 ch.f0 hn62)
              have hq1 : ∀ n, Calls Try.prog 69 #[.slice A0 pi.2.length c0, .int .i64 ch.f1] (wr.drewN n) fun e w'' => e = .returned (.bool (pi.2.contains ch.f1)) ∧ Drawn0 (wr.drewN n) w'' :=
                fun n => spec_l1Has.calls _ _ _ _ _ _ _ (Kd.C_drewN hC0 n) hl0 (l1Has_ev pi.2 ch.f1 hn62)
              have hhit : reHit ch.f0 ch.f1 pi.2 = (pi.2.contains ch.f0 && pi.2.contains ch.f1) := rfl
              generalize hb0 : pi.2.contains ch.f0 = b0 at hq0 hhit
              generalize hb1 : pi.2.contains ch.f1 = b1 at hq1 hhit
              clear hb0 hb1
              replace hhit := Aside0.mk hhit
              have hv0 := Aside0.mk hv0
              have hC0 := Aside0.mk hC0
              clear hn62
              replace hp60 := Aside0.mk hp60
              have hnext : Aside0 (reHit ch.f0 ch.f1 pi.2 = false → ∀ q ∈ ps.take (i + 1), reHit ch.f0 ch.f1 q.2 = false) := ⟨fun hh q hq => by
                rw [ht.out] at hq
                rcases List.mem_append.1 hq with hq | hq
                · exact hno.out q hq
                · rw [List.mem_singleton.1 hq]; exact hh⟩
              cases b0 with
              | false =>
                go_wp2_with (go_at_call 69; refine hq0.mono ?_; rintro e w' ⟨rfl, ⟨nd, rfl⟩⟩)
                go_roundw
                case rel => exact ⟨i + 1, rfl, by go_num, ⟨by omega⟩, ⟨hnext.out (by rw [hhit.out]; rfl)⟩, ⟨pw_below_drewN HW.out _⟩⟩
                case measure => simp [intOf]; omega
              | true =>
                cases b1 with
                | false =>
                  go_wp2_with fail
                  (with_reducible refine hq0.mono ?_)
                  rintro e w' ⟨rfl, ⟨nd, rfl⟩⟩
                  go_wp2_with fail
                  (with_reducible refine (hq1 _).mono ?_)
                  rintro e w' ⟨rfl, ⟨nd2, rfl⟩⟩
                  go_wp2_with fail
                  go_roundw
                  case rel => exact ⟨i + 1, rfl, by go_num, ⟨by omega⟩, ⟨hnext.out (by rw [hhit.out]; rfl)⟩, ⟨pw_below_drewN HW.out _⟩⟩
                  case measure => simp [intOf]; omega
                | true => 
                  go_wp2_with fail
                  (with_reducible refine hq0.mono ?_)
                  rintro e w' ⟨rfl, ⟨nd, rfl⟩⟩
                  go_wp2_with fail
                  (with_reducible refine (hq1 _).mono ?_)
                  rintro e w' ⟨rfl, ⟨nd2, rfl⟩⟩
                  go_wp2_with fail
                  have HWd : Below wc.heap.size wc (wr.drewN (nd + nd2)) := pw_below_drewN HW.out _
                  have hCd := Kd.C_drewN hC0.out (nd + nd2)
                  have k0d := (HWd.cell (World.block_lt_of_cell? wc _ K0.out)).trans K0.out
                  have k1d := (HWd.cell (World.block_lt_of_cell? wc _ K1.out)).trans K1.out
                  clear k0 k1 hcell hq0 hq1
                  generalize wr.drewN (nd + nd2) = wd at HWd hCd k0d k1d ⊢
                  replace HWd := Aside0.mk HWd
                  replace hCd := Aside0.mk hCd
                  replace k0d := Aside0.mk k0d
                  replace k1d := Aside0.mk k1d
                  go_loopw [12, 13, 60] (fun v12 v13 v60 we => ∃ q : Nat, v60 = .int .i64 (q : Int) ∧ Aside0 (q ≤ pi.2.length) ∧ Aside0 ((Kd.int .i64).R 3 we wd.heap.size (fun k_ => some k_ ≠ v13.ownBlock) v12 (reIn ch.f0 ch.f1 (pi.2.take q))) ∧ Aside0 ((Kd.int .i64).R 3 we wd.heap.size (fun k_ => some k_ ≠ v12.ownBlock) v13 (reOut ch.f0 ch.f1 (pi.2.take q))) ∧ Aside0 (Below wd.heap.size wd we)) (fun _ _ v60 _ => pi.2.length - (intOf v60).toNat)
                  case atStart => exact ⟨0, rfl, ⟨Nat.zero_le _⟩, ⟨Kd.R_nil _ _ _ _ _⟩, ⟨Kd.R_nil _ _ _ _ _⟩, ⟨Below.refl _ _⟩⟩
                  case round =>
                    obtain ⟨q, rfl, hq, HI, HU, HE⟩ := hrel
                    replace hq := hq.out
                    have hq60 := hp60.out
                    by_cases hlt4 : q < pi.2.length
                    · have hl4 : decide ((q : Int) < (pi.2.length : Int)) = true := decide_eq_true (by omega)
                      have hCe := Kd.C_below hCd.out HE.out
                      obtain ⟨ad0, ea0, hx⟩ := Kd.at_int hCe (q : Int) (by omega) (by omega)
                      cases ea0
                      rw [Int.toNat_natCast] at hx
                      rw [rd_at hlt4] at hx
                      have hts : pi.2.take (q + 1) = pi.2.take q ++ [pi.2[q]] := List.take_succ_eq_append_getElem hlt4
                      generalize pi.2[q] = x at hx hts
                      have hIn : reIn ch.f0 ch.f1 (pi.2.take (q + 1)) = reIn ch.f0 ch.f1 (pi.2.take q) ++ if ch.f0 ≤ x ∧ x ≤ ch.f1 then [x] else [] := by
                        rw [hts]; unfold reIn; rw [List.filter_append]; by_cases h : ch.f0 ≤ x ∧ x ≤ ch.f1 <;> simp [h]
                      have hOut : reOut ch.f0 ch.f1 (pi.2.take (q + 1)) = reOut ch.f0 ch.f1 (pi.2.take q) ++ if x ≤ ch.f0 ∨ ch.f1 ≤ x then [x] else [] := by
                        rw [hts]; unfold reOut; rw [List.filter_append]; by_cases h : x ≤ ch.f0 ∨ ch.f1 ≤ x <;> simp [h]
                      have hlI : (reIn ch.f0 ch.f1 (pi.2.take q)).length ≤ 60 := Nat.le_trans (List.length_filter_le _ _) (by rw [List.length_take]; omega)
                      have hlU : (reOut ch.f0 ch.f1 (pi.2.take q)).length ≤ 60 := Nat.le_trans (List.length_filter_le _ _) (by rw [List.length_take]; omega)
                      generalize reIn ch.f0 ch.f1 (pi.2.take q) = li at HI hIn hlI
                      generalize reOut ch.f0 ch.f1 (pi.2.take q) = lu at HU hOut hlU
                      have k0e := (HE.out.cell (World.block_lt_of_cell? wd _ k0d.out)).trans k0d.out
                      have k1e := (HE.out.cell (World.block_lt_of_cell? wd _ k1d.out)).trans k1d.out
                      replace hIn := Aside0.mk hIn
                      replace hOut := Aside0.mk hOut
                      clear hts hCe
                      have hcall : ∀ W b, decide (ch.f0 ≤ x ∧ x ≤ ch.f1) = b → Calls Try.prog 61 #[.int .i64 x, .int .i64 ch.f0, .int .i64 ch.f1] W fun e w'' => e = .returned (.bool b) ∧ Drawn0 W w'' := fun W b hb => spec_l1In.calls _ _ _ _ W (by rw [l1In_eq, hb])
                      by_cases h0 : ch.f0 ≤ x ∧ x ≤ ch.f1
                      · by_cases h1 : x ≤ ch.f0
                        · have b1 : decide (x ≤ ch.f0) = true := decide_eq_true h1
                          go_wp2_with fail
                          (with_reducible refine (hcall _ true (decide_eq_true h0)).mono ?_)
                          rintro e w' ⟨rfl, ⟨nd4, rfl⟩⟩
                          go_wp2_with (first | ((with_reducible refine gate_builtin (b := .append) (xs := #[.tmp 70, .tmp 72]) rfl ?_); at_builtin; refine Kd.R_append (Kd.int .i64) (w0 := wd) wd.heap.size rfl (.tmp 70) (.tmp 72) 24 3 (.int .i64 0) 8 rfl Try.underlying24 info3 rfl (by decide) (by omega) _ li x [.int .i64 x] (fun k_ => some k_ ≠ (u13 : Value).ownBlock) (fun _ => False) rfl rfl rfl (fun _ hk => hk.elim) ?aF ?aO ?aB ?aS ?aL ?_; (case aF => exact fun k_ hk_ => Kd.fresh' (Kd.R_lt (Kd.R_drewN HU.out nd4)) k_ hk_); (case aO => exact (Kd.R_drewN HI.out nd4)); (case aB => exact (pw_below_drewN HE.out nd4)); (case aS => exact ((pw_below_drewN HE.out nd4)).size); (case aL => omega); intro v5 w5 ho_ hb_ hg_ hat_; have hn_ := Kd.R_mono (ok' := fun k_ => some k_ ≠ (v5 : Value).ownBlock) (Kd.R_after (ok := fun _ => True) (Kd.R_mono (Kd.R_drewN HU.out nd4) (fun _ h => ⟨trivial, h⟩)) hg_ hat_) (fun _ h => h.2); have k05 := (hb_.cell (World.block_lt_of_cell? wd _ k0d.out)).trans k0d.out; have k15 := (hb_.cell (World.block_lt_of_cell? wd _ k1d.out)).trans k1d.out; have R5 := Aside0.mk ho_; have O5 := Aside0.mk hn_; have B5 := Aside0.mk hb_; clear ho_ hn_ hb_ hg_ hat_) | ((with_reducible refine gate_builtin (b := .append) (xs := #[.tmp 84, .tmp 86]) rfl ?_); at_builtin; refine Kd.R_append (Kd.int .i64) (w0 := wd) wd.heap.size rfl (.tmp 84) (.tmp 86) 24 3 (.int .i64 0) 8 rfl Try.underlying24 info3 rfl (by decide) (by omega) _ lu x [.int .i64 x] (fun k_ => some k_ ≠ (v5 : Value).ownBlock) (fun _ => False) rfl rfl rfl (fun _ hk => hk.elim) ?aF ?aO ?aB ?aS ?aL ?_; (case aF => exact fun k_ hk_ => Kd.fresh' (Kd.R_lt R5.out) k_ hk_); (case aO => exact O5.out); (case aB => exact B5.out); (case aS => exact (B5.out).size); (case aL => omega); intro v6 w6 ho_ hb_ hg_ hat_; have hn_ := Kd.R_mono (ok' := fun k_ => some k_ ≠ (v6 : Value).ownBlock) (Kd.R_after (ok := fun _ => True) (Kd.R_mono R5.out (fun _ h => ⟨trivial, h⟩)) hg_ hat_) (fun _ h => h.2); have k06 := (hb_.cell (World.block_lt_of_cell? wd _ k0d.out)).trans k0d.out; have k16 := (hb_.cell (World.block_lt_of_cell? wd _ k1d.out)).trans k1d.out; have R6 := Aside0.mk ho_; have O6 := Aside0.mk hn_; have B6 := Aside0.mk hb_; clear ho_ hn_ hb_ hg_ hat_))
                          go_roundw
                          case rel => exact ⟨q + 1, by go_num, ⟨by omega⟩, ⟨by rw [hIn.out, if_pos h0]; exact O6.out⟩, ⟨by rw [hOut.out, if_pos (by omega)]; exact R6.out⟩, B6⟩
                          case measure => simp [intOf]; omega
                        · by_cases h2 : ch.f1 ≤ x
                          · have b1 : decide (x ≤ ch.f0) = false := decide_eq_false h1
                            have b2 : decide (ch.f1 ≤ x) = true := decide_eq_true h2
                            have b3 : decide (x ≥ ch.f1) = true := decide_eq_true h2
                            go_wp2_with fail
                            (with_reducible refine (hcall _ true (decide_eq_true h0)).mono ?_)
                            rintro e w' ⟨rfl, ⟨nd4, rfl⟩⟩
                            go_wp2_with (first | ((with_reducible refine gate_builtin (b := .append) (xs := #[.tmp 70, .tmp 72]) rfl ?_); at_builtin; refine Kd.R_append (Kd.int .i64) (w0 := wd) wd.heap.size rfl (.tmp 70) (.tmp 72) 24 3 (.int .i64 0) 8 rfl Try.underlying24 info3 rfl (by decide) (by omega) _ li x [.int .i64 x] (fun k_ => some k_ ≠ (u13 : Value).ownBlock) (fun _ => False) rfl rfl rfl (fun _ hk => hk.elim) ?aF ?aO ?aB ?aS ?aL ?_; (case aF => exact fun k_ hk_ => Kd.fresh' (Kd.R_lt (Kd.R_drewN HU.out nd4)) k_ hk_); (case aO => exact (Kd.R_drewN HI.out nd4)); (case aB => exact (pw_below_drewN HE.out nd4)); (case aS => exact ((pw_below_drewN HE.out nd4)).size); (case aL => omega); intro v5 w5 ho_ hb_ hg_ hat_; have hn_ := Kd.R_mono (ok' := fun k_ => some k_ ≠ (v5 : Value).ownBlock) (Kd.R_after (ok := fun _ => True) (Kd.R_mono (Kd.R_drewN HU.out nd4) (fun _ h => ⟨trivial, h⟩)) hg_ hat_) (fun _ h => h.2); have k05 := (hb_.cell (World.block_lt_of_cell? wd _ k0d.out)).trans k0d.out; have k15 := (hb_.cell (World.block_lt_of_cell? wd _ k1d.out)).trans k1d.out; have R5 := Aside0.mk ho_; have O5 := Aside0.mk hn_; have B5 := Aside0.mk hb_; clear ho_ hn_ hb_ hg_ hat_) | ((with_reducible refine gate_builtin (b := .append) (xs := #[.tmp 84, .tmp 86]) rfl ?_); at_builtin; refine Kd.R_append (Kd.int .i64) (w0 := wd) wd.heap.size rfl (.tmp 84) (.tmp 86) 24 3 (.int .i64 0) 8 rfl Try.underlying24 info3 rfl (by decide) (by omega) _ lu x [.int .i64 x] (fun k_ => some k_ ≠ (v5 : Value).ownBlock) (fun _ => False) rfl rfl rfl (fun _ hk => hk.elim) ?aF ?aO ?aB ?aS ?aL ?_; (case aF => exact fun k_ hk_ => Kd.fresh' (Kd.R_lt R5.out) k_ hk_); (case aO => exact O5.out); (case aB => exact B5.out); (case aS => exact (B5.out).size); (case aL => omega); intro v6 w6 ho_ hb_ hg_ hat_; have hn_ := Kd.R_mono (ok' := fun k_ => some k_ ≠ (v6 : Value).ownBlock) (Kd.R_after (ok := fun _ => True) (Kd.R_mono R5.out (fun _ h => ⟨trivial, h⟩)) hg_ hat_) (fun _ h => h.2); have k06 := (hb_.cell (World.block_lt_of_cell? wd _ k0d.out)).trans k0d.out; have k16 := (hb_.cell (World.block_lt_of_cell? wd _ k1d.out)).trans k1d.out; have R6 := Aside0.mk ho_; have O6 := Aside0.mk hn_; have B6 := Aside0.mk hb_; clear ho_ hn_ hb_ hg_ hat_))
                            go_roundw
                            case rel => exact ⟨q + 1, by go_num, ⟨by omega⟩, ⟨by rw [hIn.out, if_pos h0]; exact O6.out⟩, ⟨by rw [hOut.out, if_pos (by omega)]; exact R6.out⟩, B6⟩
                            case measure => simp [intOf]; omega
                          · have b1 : decide (x ≤ ch.f0) = false := decide_eq_false h1
                            have b2 : decide (ch.f1 ≤ x) = false := decide_eq_false h2
                            have b3 : decide (x ≥ ch.f1) = false := decide_eq_false h2
                            go_wp2_with fail
                            (with_reducible refine (hcall _ true (decide_eq_true h0)).mono ?_)
                            rintro e w' ⟨rfl, ⟨nd4, rfl⟩⟩
                            go_wp2_with (((with_reducible refine gate_builtin (b := .append) (xs := #[.tmp 70, .tmp 72]) rfl ?_); at_builtin; refine Kd.R_append (Kd.int .i64) (w0 := wd) wd.heap.size rfl (.tmp 70) (.tmp 72) 24 3 (.int .i64 0) 8 rfl Try.underlying24 info3 rfl (by decide) (by omega) _ li x [.int .i64 x] (fun k_ => some k_ ≠ (u13 : Value).ownBlock) (fun _ => False) rfl rfl rfl (fun _ hk => hk.elim) ?aF ?aO ?aB ?aS ?aL ?_; (case aF => exact fun k_ hk_ => Kd.fresh' (Kd.R_lt (Kd.R_drewN HU.out nd4)) k_ hk_); (case aO => exact (Kd.R_drewN HI.out nd4)); (case aB => exact (pw_below_drewN HE.out nd4)); (case aS => exact ((pw_below_drewN HE.out nd4)).size); (case aL => omega); intro v5 w5 ho_ hb_ hg_ hat_; have hn_ := Kd.R_mono (ok' := fun k_ => some k_ ≠ (v5 : Value).ownBlock) (Kd.R_after (ok := fun _ => True) (Kd.R_mono (Kd.R_drewN HU.out nd4) (fun _ h => ⟨trivial, h⟩)) hg_ hat_) (fun _ h => h.2); have k05 := (hb_.cell (World.block_lt_of_cell? wd _ k0d.out)).trans k0d.out; have k15 := (hb_.cell (World.block_lt_of_cell? wd _ k1d.out)).trans k1d.out; have R5 := Aside0.mk ho_; have O5 := Aside0.mk hn_; have B5 := Aside0.mk hb_; clear ho_ hn_ hb_ hg_ hat_))
                            go_roundw
                            case rel => exact ⟨q + 1, by go_num, ⟨by omega⟩, ⟨by rw [hIn.out, if_pos h0]; exact R5.out⟩, ⟨by rw [hOut.out, if_neg (by omega), List.append_nil]; exact O5.out⟩, B5⟩
                            case measure => simp [intOf]; omega
                      · by_cases h1 : x ≤ ch.f0
                        · have b1 : decide (x ≤ ch.f0) = true := decide_eq_true h1
                          go_wp2_with fail
                          (with_reducible refine (hcall _ false (decide_eq_false h0)).mono ?_)
                          rintro e w' ⟨rfl, ⟨nd4, rfl⟩⟩
                          go_wp2_with (((with_reducible refine gate_builtin (b := .append) (xs := #[.tmp 84, .tmp 86]) rfl ?_); at_builtin; refine Kd.R_append (Kd.int .i64) (w0 := wd) wd.heap.size rfl (.tmp 84) (.tmp 86) 24 3 (.int .i64 0) 8 rfl Try.underlying24 info3 rfl (by decide) (by omega) _ lu x [.int .i64 x] (fun k_ => some k_ ≠ (u12 : Value).ownBlock) (fun _ => False) rfl rfl rfl (fun _ hk => hk.elim) ?aF ?aO ?aB ?aS ?aL ?_; (case aF => exact fun k_ hk_ => Kd.fresh' (Kd.R_lt (Kd.R_drewN HI.out nd4)) k_ hk_); (case aO => exact (Kd.R_drewN HU.out nd4)); (case aB => exact (pw_below_drewN HE.out nd4)); (case aS => exact ((pw_below_drewN HE.out nd4)).size); (case aL => omega); intro v6 w6 ho_ hb_ hg_ hat_; have hn_ := Kd.R_mono (ok' := fun k_ => some k_ ≠ (v6 : Value).ownBlock) (Kd.R_after (ok := fun _ => True) (Kd.R_mono (Kd.R_drewN HI.out nd4) (fun _ h => ⟨trivial, h⟩)) hg_ hat_) (fun _ h => h.2); have k06 := (hb_.cell (World.block_lt_of_cell? wd _ k0d.out)).trans k0d.out; have k16 := (hb_.cell (World.block_lt_of_cell? wd _ k1d.out)).trans k1d.out; have R6 := Aside0.mk ho_; have O6 := Aside0.mk hn_; have B6 := Aside0.mk hb_; clear ho_ hn_ hb_ hg_ hat_))
                          go_roundw
                          case rel => exact ⟨q + 1, by go_num, ⟨by omega⟩, ⟨by rw [hIn.out, if_neg h0, List.append_nil]; exact O6.out⟩, ⟨by rw [hOut.out, if_pos (by omega)]; exact R6.out⟩, B6⟩
                          case measure => simp [intOf]; omega
                        · by_cases h2 : ch.f1 ≤ x
                          · have b1 : decide (x ≤ ch.f0) = false := decide_eq_false h1
                            have b2 : decide (ch.f1 ≤ x) = true := decide_eq_true h2
                            have b3 : decide (x ≥ ch.f1) = true := decide_eq_true h2
                            go_wp2_with fail
                            (with_reducible refine (hcall _ false (decide_eq_false h0)).mono ?_)
                            rintro e w' ⟨rfl, ⟨nd4, rfl⟩⟩
                            go_wp2_with (((with_reducible refine gate_builtin (b := .append) (xs := #[.tmp 84, .tmp 86]) rfl ?_); at_builtin; refine Kd.R_append (Kd.int .i64) (w0 := wd) wd.heap.size rfl (.tmp 84) (.tmp 86) 24 3 (.int .i64 0) 8 rfl Try.underlying24 info3 rfl (by decide) (by omega) _ lu x [.int .i64 x] (fun k_ => some k_ ≠ (u12 : Value).ownBlock) (fun _ => False) rfl rfl rfl (fun _ hk => hk.elim) ?aF ?aO ?aB ?aS ?aL ?_; (case aF => exact fun k_ hk_ => Kd.fresh' (Kd.R_lt (Kd.R_drewN HI.out nd4)) k_ hk_); (case aO => exact (Kd.R_drewN HU.out nd4)); (case aB => exact (pw_below_drewN HE.out nd4)); (case aS => exact ((pw_below_drewN HE.out nd4)).size); (case aL => omega); intro v6 w6 ho_ hb_ hg_ hat_; have hn_ := Kd.R_mono (ok' := fun k_ => some k_ ≠ (v6 : Value).ownBlock) (Kd.R_after (ok := fun _ => True) (Kd.R_mono (Kd.R_drewN HI.out nd4) (fun _ h => ⟨trivial, h⟩)) hg_ hat_) (fun _ h => h.2); have k06 := (hb_.cell (World.block_lt_of_cell? wd _ k0d.out)).trans k0d.out; have k16 := (hb_.cell (World.block_lt_of_cell? wd _ k1d.out)).trans k1d.out; have R6 := Aside0.mk ho_; have O6 := Aside0.mk hn_; have B6 := Aside0.mk hb_; clear ho_ hn_ hb_ hg_ hat_))
                            go_roundw
                            case rel => exact ⟨q + 1, by go_num, ⟨by omega⟩, ⟨by rw [hIn.out, if_neg h0, List.append_nil]; exact O6.out⟩, ⟨by rw [hOut.out, if_pos (by omega)]; exact R6.out⟩, B6⟩
                            case measure => simp [intOf]; omega
                          · exact absurd (show ch.f0 ≤ x ∧ x ≤ ch.f1 by omega) h0
                    · have hl4 : decide ((q : Int) < (pi.2.length : Int)) = false := decide_eq_false (by omega)
                      obtain rfl : q = pi.2.length := by omega
                      clear hlt4
                      rw [List.take_length] at HI HU
                      obtain ⟨A12, c12, e12⟩ := Kd.R_slice HI.out
                      subst e12
                      obtain ⟨A13, c13, e13⟩ := Kd.R_slice HU.out
                      subst e13
                      generalize hli : reIn ch.f0 ch.f1 pi.2 = li at HI HU ⊢
                      generalize hlu : reOut ch.f0 ch.f1 pi.2 = lu at HI HU ⊢
                      have HPe := Aside0.mk (RowsP.parted (i := i) (HPc.out.below HWd.out) HE.out HI.out HU.out (Nat.le_trans HBc.out.size HWd.out.size))
                      have HCe := Aside0.mk (Kd.C_below (Kd.C_below HCc.out HWd.out) HE.out)
                      have HBe := Aside0.mk (below_then (below_then HBc.out HBc.out.size HWd.out) (Nat.le_trans HBc.out.size HWd.out.size) HE.out)
                      clear HI HU
                      obtain ⟨i0_, hi0_, hz0_⟩ := Option.map_eq_some_iff.1 info24
                      simp only [Prod.mk.injEq] at hz0_
                      obtain ⟨AD, hcut, hAD⟩ := cut_row (P := Try.prog) 37 24 Try.underlying37 hi0_ hz0_.2.1 (some ad7) ps.length c7 (i + 1) (by omega) hc7.out
                      clear hz0_ hi0_
                      have hic : i ≤ c7 := by have := hc7.out; omega
                      have hw1 : ((i + 1 : Nat) : Int) = (i : Int) + 1 := by omega
                      rw [hw1] at hcut
                      clear hw1
                      go_wp2_with (first | ((with_reducible refine gate_builtin (b := .append) (xs := #[.tmp 89, .tmp 92]) rfl ?_); at_builtin; refine Kd.R_append_rows (Kd.raw 1) (w0 := wr) wr.heap.size rfl (.tmp 89) (.tmp 92) 37 24 (.slice none 0 0) 24 rfl Try.underlying37 info24 rfl (by decide) (by omega) _ [] ((ps.map fun p => [p.1]).take i) _ _ _ (fun _ => True) (fun _ => False) rfl rfl (none_row wr wr.heap.size 24 (Nat.le_refl _)) (take_row _ (Kd.C_below HCe.out (below_alloc (Below.refl _ _) _)) (Nat.le_of_lt hlt3)) (fun _ _ h => h) (fun _ h => h.elim) (fun _ _ => trivial) (below_alloc (Below.refl _ _) _) (below_alloc (Below.refl _ _) _).size ?aL ?_; (case aL => simp; omega); intro v5 w5 ho_ hb_ hg_ hat_; have R5 := Aside0.mk ho_; have B5 := Aside0.mk hb_; clear ho_ hb_ hg_ hat_) | ((with_reducible refine gate_builtin (b := .append) (xs := #[.tmp 93, .tmp 96]) rfl ?_); at_builtin; refine Kd.R_append_rows (Kd.raw 1) (w0 := wr) wr.heap.size rfl (.tmp 93) (.tmp 96) 37 24 (.slice none 0 0) 24 rfl Try.underlying37 info24 rfl (by decide) (by omega) _ _ _ _ _ _ (fun _ => True) (fun _ => False) rfl rfl (Kd.R_alloc R5.out _) (two_row w5 (.slice A12 li.length c12) (.slice A13 lu.length c13) 24 rfl rfl) (fun _ _ h => h) (fun _ h => h.elim) (fun _ _ => trivial) (below_alloc2 B5.out _) (below_alloc2 B5.out _).size ?aL ?_; (case aL => simp; omega); intro v6 w6 ho_ hb_ hg_ hat_; have R6 := Aside0.mk ho_; have B6 := Aside0.mk hb_; clear ho_ hb_ hg_ hat_) | ((with_reducible refine gate_builtin (b := .append) (xs := #[.tmp 98, .tmp 102]) rfl ?_); at_builtin; refine Kd.R_append_rows (Kd.raw 1) (w0 := wr) wr.heap.size rfl (.tmp 98) (.tmp 102) 37 24 (.slice none 0 0) 24 rfl Try.underlying37 info24 rfl (by decide) (by omega) _ _ _ _ _ _ (fun _ => True) (fun _ => False) rfl rfl R6.out (hAD (Kd.raw 1) w6 (ps.map fun p => [p.1]) rfl (Kd.C_below HCe.out B6.out)) (fun _ _ h => h) (fun _ h => h.elim) (fun _ _ => trivial) B6.out B6.out.size ?aL ?_; (case aL => simp; omega); intro v7 w7 ho_ hb_ hg_ hat_; have R7 := Aside0.mk ho_; have B7 := Aside0.mk hb_; clear ho_ hb_ hg_ hat_))
                      have hstep : reStep (ps.map Prod.snd) ch = (ps.take i ++ [((.slice A12 li.length c12 : Value), li), (.slice A13 lu.length c13, lu)] ++ ps.drop (i + 1)).map Prod.snd := by
                        have h1 := reStep_at hlt3 ch hno.out (by rw [hp.out, hhit.out]; rfl) (.slice A12 li.length c12) (.slice A13 lu.length c13)
                        rw [hp.out, hli, hlu] at h1
                        exact h1
                      go_roundw
                      case rel => exact ⟨j + 1, ps.take i ++ [(.slice A12 li.length c12, li), (.slice A13 lu.length c13, lu)] ++ ps.drop (i + 1), by go_num, ⟨by omega⟩, ⟨by rw [← hstep, hps.out, take_foldl (f := reStep) (x := [rg]) hlt hc.out]⟩, ⟨by simp; omega⟩, ⟨HPe.out.below B7.out⟩, ⟨by
                        have h1 := Kd.R_lower R7.out (show w.heap.size ≤ wr.heap.size from HBe.out.size)
                        have h2 : (ps.take i ++ [((.slice A12 li.length c12 : Value), li), (.slice A13 lu.length c13, lu)] ++ ps.drop (i + 1)).map (fun p => [p.1]) = [] ++ (ps.map fun p => [p.1]).take i ++ [[.slice A12 li.length c12], [.slice A13 lu.length c13]] ++ (ps.map fun p => [p.1]).drop (i + 1) := by simp [List.map_take, List.map_drop]
                        unfold RowsO
                        rw [h2]
                        exact h1⟩, ⟨below_then HBe.out HBe.out.size B7.out⟩⟩
                      case measure => simp [intOf]; omega
            · have hl3 : decide ((i : Int) < (ps.length : Int)) = false := decide_eq_false (by omega)
              obtain rfl : i = ps.length := by omega
              rw [List.take_length] at hno
              have hstep := reStep_no ch hno.out
              go_wp2_with fail
              go_roundw
              case rel => exact ⟨j + 1, ps, by go_num, ⟨by omega⟩, ⟨by rw [← hstep, hps.out, take_foldl (f := reStep) (x := [rg]) hlt hc.out]⟩, ⟨by omega⟩, ⟨HPc.out.below HW.out⟩, ⟨HOc.out.below HW.out⟩, ⟨below_then HBc.out HBc.out.size HW.out⟩⟩
              case measure => simp [intOf]; omega
        · have hl : decide ((j : Int) < (l1.length : Int)) = false := decide_eq_false (by omega)
          obtain rfl : j = l1.length := by omega
          rw [List.take_length] at hps
          go_wp2_with fail
          obtain ⟨wo, rfl⟩ : ∃ wo : World, wo = wr := ⟨_, rfl⟩
          have hpl5 := hpl.out
          go_loopw [17, 108] (fun v17 v108 we => ∃ (m : Nat) (qs : List (Value × List Int)), v108 = .int .i64 (m : Int) ∧ Aside0 (m ≤ ps.length) ∧ Aside0 (qs.Perm (ps.take m)) ∧ Aside0 (qs.map Prod.snd = ((ps.take m).map Prod.snd).foldl rePut []) ∧ Aside0 (RowsO we w.heap.size v17 qs) ∧ Aside0 (Below wo.heap.size wo we)) (fun _ v108 _ => ps.length - (intOf v108).toNat)
          case atStart => exact ⟨0, [], rfl, ⟨Nat.zero_le _⟩, ⟨List.Perm.refl _⟩, ⟨rfl⟩, ⟨Kd.R_nil _ _ _ _ _⟩, ⟨Below.refl _ _⟩⟩
          case round =>
            clear hl
            obtain ⟨m, qs, rfl, hm, hpm, hqs, HQ, HW⟩ := hrel
            replace hm := hm.out
            have hql : qs.length = m := by have := hpm.out.length_eq; rw [List.length_take] at this; omega
            by_cases hlt : m < ps.length
            · have hl5 : decide ((m : Int) < (ps.length : Int)) = true := decide_eq_true (by omega)
              obtain ⟨ad7, A0, c0, ea7, hcell, hv0, hl0, hC0⟩ := RowsO.get (HP.out.below HW.out) (Kd.C_below HC.out HW.out) m hlt rfl
              cases ea7
              have ht : ps.take (m + 1) = ps.take m ++ [ps[m]] := List.take_succ_eq_append_getElem hlt
              have hp60 : ps[m].2.length ≤ 60 := by
                have h1 : ps[m].2 ∈ ps.map Prod.snd := List.mem_map.2 ⟨ps[m], List.getElem_mem hlt, rfl⟩
                rw [hps.out] at h1
                have h2 := reSteps_len (m := rg.length) l1 (rs := [rg]) (fun r hr => by rw [List.mem_singleton.1 hr]; exact Nat.le_refl _) _ h1
                have h3 : rg.length = k := by rw [hrg.out]; simp
                have := hk2.out
                omega
              generalize hp : ps[m] = pm at hcell hv0 hl0 hC0 ht hp60
              obtain ⟨A17, c17, e17, hc17, HC17⟩ := HQ.out.slice
              subst e17
              replace hp := Aside0.mk hp
              replace ht := Aside0.mk ht
              replace hv0 := Aside0.mk hv0
              replace hC0 := Aside0.mk hC0
              replace hp60 := Aside0.mk hp60
              replace hc17 := Aside0.mk hc17
              replace HC17 := Aside0.mk HC17
              replace hl0 := Aside0.mk hl0
              have hql2 := hql
              replace hql := Aside0.mk hql
              have hqm : qs.length ≤ 41 := by omega
              clear hql2
              go_wp2_with fail
              obtain ⟨wp, rfl⟩ : ∃ wp : World, wp = wr := ⟨_, rfl⟩
              have HQP := Aside0.mk (RowsP.perm ((HP.out.below HW.out).sub (List.take_sublist m ps)) hpm.out.symm)
              go_loopw [20] (fun v20 we => ∃ t : Nat, v20 = .int .i64 (t : Int) ∧ Aside0 (t ≤ qs.length) ∧ Aside0 (∀ x ∈ qs.drop t, lexLt pm.2 x.2 = true) ∧ Aside0 (Below wp.heap.size wp we)) (fun v20 _ => (intOf v20).toNat)
              case atStart => exact ⟨qs.length, rfl, ⟨Nat.le_refl _⟩, ⟨fun x hx => by simp at hx⟩, ⟨Below.refl _ _⟩⟩
              case round =>
                clear hcell hl5
                obtain ⟨t, rfl, htq, hall, HX⟩ := hrel
                have ht2 := htq.out
                have HBx := Aside0.mk (below_then (below_then HB.out HB.out.size HW.out) (Nat.le_trans HB.out.size HW.out.size) HX.out)
                have HCq := Aside0.mk (Kd.C_below HC17.out HX.out)
                by_cases h0 : t = 0
                · have hlast : ∀ s (hs : s < qs.length), t = s + 1 → lexLt pm.2 qs[s].2 = false := fun s hs he => absurd he (by omega)
                  replace hlast := Aside0.mk hlast
                  have hgt : decide (0 < t) = false := decide_eq_false (by omega)
                  have ht0 : (t : Int) ≤ 0 := by omega
                  clear h0
                  obtain ⟨i0_, hi0_, hz0_⟩ := Option.map_eq_some_iff.1 info24
                  simp only [Prod.mk.injEq] at hz0_
                  obtain ⟨AD, hcut, hAD⟩ := cut_row' (P := Try.prog) 37 24 Try.underlying37 hi0_ hz0_.2.1 A17 qs.length c17 t (t : Int) rfl htq.out hc17.out
                  have htake := take_cut (P := Try.prog) 37 24 Try.underlying37 hi0_ hz0_.2.1 A17 qs.length c17 t (t : Int) rfl (Nat.le_trans htq.out hc17.out)
                  clear hz0_ hi0_
                  go_wp2_with (first | ((with_reducible refine gate_builtin (b := .append) (xs := #[.tmp 127, .tmp 130]) rfl ?_); at_builtin; refine Kd.R_append_rows (Kd.raw 1) (w0 := wr) wr.heap.size rfl (.tmp 127) (.tmp 130) 37 24 (.slice none 0 0) 24 rfl Try.underlying37 info24 rfl (by decide) (by omega) _ [] ((qs.map fun p => [p.1]).take t) _ _ _ (fun _ => True) (fun _ => False) rfl rfl (none_row wr wr.heap.size 24 (Nat.le_refl _)) (take_row _ (Kd.C_below HCq.out (below_alloc (Below.refl _ _) _)) htq.out) (fun _ _ h => h) (fun _ h => h.elim) (fun _ _ => trivial) (below_alloc (Below.refl _ _) _) ((below_alloc (Below.refl _ _) _)).size ?aL ?_; (case aL => simp; omega); intro v5 w5 ho_ hb_ hg_ hat_; have R5 := Aside0.mk ho_; have B5 := Aside0.mk hb_; clear ho_ hb_ hg_ hat_) | ((with_reducible refine gate_builtin (b := .append) (xs := #[.tmp 131, .tmp 133]) rfl ?_); at_builtin; refine Kd.R_append_rows (Kd.raw 1) (w0 := wr) wr.heap.size rfl (.tmp 131) (.tmp 133) 37 24 (.slice none 0 0) 24 rfl Try.underlying37 info24 rfl (by decide) (by omega) _ _ _ _ _ _ (fun _ => True) (fun _ => False) rfl rfl (Kd.R_alloc R5.out _) (one_row w5 (.slice A0 pm.2.length c0) 24 rfl) (fun _ _ h => h) (fun _ h => h.elim) (fun _ _ => trivial) (below_alloc2 B5.out _) ((below_alloc2 B5.out _)).size ?aL ?_; (case aL => simp; omega); intro v6 w6 ho_ hb_ hg_ hat_; have R6 := Aside0.mk ho_; have B6 := Aside0.mk hb_; clear ho_ hb_ hg_ hat_) | ((with_reducible refine gate_builtin (b := .append) (xs := #[.tmp 135, .tmp 138]) rfl ?_); at_builtin; refine Kd.R_append_rows (Kd.raw 1) (w0 := wr) wr.heap.size rfl (.tmp 135) (.tmp 138) 37 24 (.slice none 0 0) 24 rfl Try.underlying37 info24 rfl (by decide) (by omega) _ _ _ _ _ _ (fun _ => True) (fun _ => False) rfl rfl R6.out (hAD (Kd.raw 1) w6 (qs.map fun p => [p.1]) rfl (Kd.C_below HCq.out B6.out)) (fun _ _ h => h) (fun _ h => h.elim) (fun _ _ => trivial) B6.out (B6.out).size ?aL ?_; (case aL => simp; omega); intro v7 w7 ho_ hb_ hg_ hat_; have R7 := Aside0.mk ho_; have B7 := Aside0.mk hb_; clear ho_ hb_ hg_ hat_))
                  go_roundw
                  case rel => exact ⟨m + 1, qs.take t ++ [(.slice A0 pm.2.length c0, pm.2)] ++ qs.drop t, by go_num, ⟨by omega⟩, ⟨by
                    rw [ht.out]
                    have e1 : pm = (.slice A0 pm.2.length c0, pm.2) := by rw [← hv0.out]
                    have h1 : (qs.take t ++ [((.slice A0 pm.2.length c0 : Value), pm.2)] ++ qs.drop t).Perm (qs ++ [pm]) := by
                      rw [← e1, List.append_assoc]
                      refine (List.Perm.append_left (qs.take t) List.perm_append_comm).trans ?_
                      rw [← List.append_assoc, List.take_append_drop]
                    exact h1.trans (hpm.out.append_right [pm])⟩, ⟨by
                    rw [ht.out, show ((ps.take m ++ [pm]).map Prod.snd).foldl rePut [] = rePut (qs.map Prod.snd) pm.2 from by rw [List.map_append, List.foldl_append, ← hqs.out]; rfl]
                    exact (rePut_at htq.out hall.out hlast.out _).symm⟩, ⟨by
                    have h1 := Kd.R_lower R7.out (show w.heap.size ≤ wr.heap.size from HBx.out.size)
                    have h2 : (qs.take t ++ [((.slice A0 pm.2.length c0 : Value), pm.2)] ++ qs.drop t).map (fun p => [p.1]) = [] ++ (qs.map fun p => [p.1]).take t ++ [[.slice A0 pm.2.length c0]] ++ (qs.map fun p => [p.1]).drop t := by simp [List.map_take, List.map_drop]
                    unfold RowsO
                    rw [h2]
                    exact h1⟩, ⟨below_then (below_then HW.out HW.out.size HX.out) (Nat.le_trans HW.out.size HX.out.size) B7.out⟩⟩
                  case measure => have := hlt; simp [intOf]; omega
                · obtain ⟨t1, rfl⟩ : ∃ t1, t = t1 + 1 := ⟨t - 1, by omega⟩
                  obtain ⟨ad17, A1_, c1_, ea17, hcell, hv1, hl1, hC1⟩ := RowsO.get (HQP.out.below HX.out) HCq.out t1 (by omega) rfl
                  cases ea17
                  have hgt : decide ((0 : Int) < ((t1 + 1 : Nat) : Int)) = true := decide_eq_true (by omega)
                  have hdr : qs.drop t1 = qs[t1] :: qs.drop (t1 + 1) := List.drop_eq_getElem_cons (by omega)
                  have hqi : ∀ s (hs : s < qs.length), t1 + 1 = s + 1 → qs[s] = qs[t1] := fun s hs he => by
                    have e : s = t1 := by omega
                    subst e
                    rfl
                  generalize hq1 : qs[t1] = q1 at hcell hv1 hl1 hC1 hdr hqi
                  clear hq1
                  have hcallL : Calls Try.prog 103 #[.slice A0 pm.2.length c0, .slice A1_ q1.2.length c1_] wr fun e w'' => e = .returned (.bool (lexLt pm.2 q1.2)) ∧ Drawn0 wr w'' :=
                    spec_reLess.calls _ _ _ _ _ _ _ _ _ (Kd.C_below (Kd.C_below hC0.out (Below.refl _ _)) HX.out) hl0.out hC1 hl1 (reLess_ev pm.2 q1.2 (by have := hp60.out; omega))
                  cases hb : lexLt pm.2 q1.2 with
                  | true =>
                    rw [hb] at hcallL
                    replace hb := Aside0.mk hb
                    replace hdr := Aside0.mk hdr
                    clear hqi
                    go_wp2_with fail
                    (with_reducible refine hcallL.mono ?_)
                    rintro e w' ⟨rfl, ⟨nd, rfl⟩⟩
                    go_wp2_with fail
                    go_roundw
                    case rel => exact ⟨t1, by first | rfl | go_num, ⟨by omega⟩, ⟨fun x hx => by
                      rw [hdr.out] at hx
                      rcases List.mem_cons.1 hx with rfl | hx
                      · exact hb.out
                      · exact hall.out x hx⟩, ⟨pw_below_drewN HX.out _⟩⟩
                    case measure => simp [intOf]
                  | false =>
                    rw [hb] at hcallL
                    replace hb := Aside0.mk hb
                    have hlast : Aside0 (∀ s (hs : s < qs.length), t1 + 1 = s + 1 → lexLt pm.2 qs[s].2 = false) := ⟨fun s hs he => by rw [hqi s hs he]; exact hb.out⟩
                    clear hqi
                    replace hdr := Aside0.mk hdr
                    obtain ⟨i0_, hi0_, hz0_⟩ := Option.map_eq_some_iff.1 info24
                    simp only [Prod.mk.injEq] at hz0_
                    obtain ⟨AD, hcut, hAD⟩ := cut_row' (P := Try.prog) 37 24 Try.underlying37 hi0_ hz0_.2.1 (some ad17) qs.length c17 (t1 + 1) ((t1 : Int) + 1) (by omega) htq.out hc17.out
                    have htake := take_cut (P := Try.prog) 37 24 Try.underlying37 hi0_ hz0_.2.1 (some ad17) qs.length c17 (t1 + 1) ((t1 : Int) + 1) (by omega) (Nat.le_trans htq.out hc17.out)
                    clear hz0_ hi0_
                    go_wp2_with fail
                    (with_reducible refine hcallL.mono ?_)
                    rintro e w' ⟨rfl, ⟨nd, rfl⟩⟩
                    have HXq := Aside0.mk (pw_below_drewN HX.out nd)
                    have HCr := Aside0.mk (Kd.C_drewN HCq.out nd)
                    have HBq := Aside0.mk (pw_below_drewN HBx.out nd)
                    clear hcallL hcell
                    generalize wr.drewN nd = wq at HXq HCr HBq ⊢
                    go_wp2_with (first | ((with_reducible refine gate_builtin (b := .append) (xs := #[.tmp 127, .tmp 130]) rfl ?_); at_builtin; refine Kd.R_append_rows (Kd.raw 1) (w0 := wq) wq.heap.size rfl (.tmp 127) (.tmp 130) 37 24 (.slice none 0 0) 24 rfl Try.underlying37 info24 rfl (by decide) (by omega) _ [] ((qs.map fun p => [p.1]).take (t1 + 1)) _ _ _ (fun _ => True) (fun _ => False) rfl rfl (none_row wq wq.heap.size 24 (Nat.le_refl _)) (take_row _ (Kd.C_below HCr.out (below_alloc (Below.refl _ _) _)) htq.out) (fun _ _ h => h) (fun _ h => h.elim) (fun _ _ => trivial) (below_alloc (Below.refl _ _) _) ((below_alloc (Below.refl _ _) _)).size ?aL ?_; (case aL => simp; omega); intro v5 w5 ho_ hb_ hg_ hat_; have R5 := Aside0.mk ho_; have B5 := Aside0.mk hb_; clear ho_ hb_ hg_ hat_) | ((with_reducible refine gate_builtin (b := .append) (xs := #[.tmp 131, .tmp 133]) rfl ?_); at_builtin; refine Kd.R_append_rows (Kd.raw 1) (w0 := wq) wq.heap.size rfl (.tmp 131) (.tmp 133) 37 24 (.slice none 0 0) 24 rfl Try.underlying37 info24 rfl (by decide) (by omega) _ _ _ _ _ _ (fun _ => True) (fun _ => False) rfl rfl (Kd.R_alloc R5.out _) (one_row w5 (.slice A0 pm.2.length c0) 24 rfl) (fun _ _ h => h) (fun _ h => h.elim) (fun _ _ => trivial) (below_alloc2 B5.out _) ((below_alloc2 B5.out _)).size ?aL ?_; (case aL => simp; omega); intro v6 w6 ho_ hb_ hg_ hat_; have R6 := Aside0.mk ho_; have B6 := Aside0.mk hb_; clear ho_ hb_ hg_ hat_) | ((with_reducible refine gate_builtin (b := .append) (xs := #[.tmp 135, .tmp 138]) rfl ?_); at_builtin; refine Kd.R_append_rows (Kd.raw 1) (w0 := wq) wq.heap.size rfl (.tmp 135) (.tmp 138) 37 24 (.slice none 0 0) 24 rfl Try.underlying37 info24 rfl (by decide) (by omega) _ _ _ _ _ _ (fun _ => True) (fun _ => False) rfl rfl R6.out (hAD (Kd.raw 1) w6 (qs.map fun p => [p.1]) rfl (Kd.C_below HCr.out B6.out)) (fun _ _ h => h) (fun _ h => h.elim) (fun _ _ => trivial) B6.out (B6.out).size ?aL ?_; (case aL => simp; omega); intro v7 w7 ho_ hb_ hg_ hat_; have R7 := Aside0.mk ho_; have B7 := Aside0.mk hb_; clear ho_ hb_ hg_ hat_))
                    go_roundw
                    case rel => exact ⟨m + 1, qs.take (t1 + 1) ++ [(.slice A0 pm.2.length c0, pm.2)] ++ qs.drop (t1 + 1), by go_num, ⟨by omega⟩, ⟨by
                      rw [ht.out]
                      have e1 : pm = (.slice A0 pm.2.length c0, pm.2) := by rw [← hv0.out]
                      have h1 : (qs.take (t1 + 1) ++ [((.slice A0 pm.2.length c0 : Value), pm.2)] ++ qs.drop (t1 + 1)).Perm (qs ++ [pm]) := by
                        rw [← e1, List.append_assoc]
                        refine (List.Perm.append_left (qs.take (t1 + 1)) List.perm_append_comm).trans ?_
                        rw [← List.append_assoc, List.take_append_drop]
                      exact h1.trans (hpm.out.append_right [pm])⟩, ⟨by
                      rw [ht.out, show ((ps.take m ++ [pm]).map Prod.snd).foldl rePut [] = rePut (qs.map Prod.snd) pm.2 from by rw [List.map_append, List.foldl_append, ← hqs.out]; rfl]
                      exact (rePut_at htq.out hall.out hlast.out _).symm⟩, ⟨by
                      have h1 := Kd.R_lower R7.out (show w.heap.size ≤ wq.heap.size from HBq.out.size)
                      have h2 : (qs.take (t1 + 1) ++ [((.slice A0 pm.2.length c0 : Value), pm.2)] ++ qs.drop (t1 + 1)).map (fun p => [p.1]) = [] ++ (qs.map fun p => [p.1]).take (t1 + 1) ++ [[.slice A0 pm.2.length c0]] ++ (qs.map fun p => [p.1]).drop (t1 + 1) := by simp [List.map_take, List.map_drop]
                      unfold RowsO
                      rw [h2]
                      exact h1⟩, ⟨below_then (below_then HW.out HW.out.size HXq.out) (Nat.le_trans HW.out.size HXq.out.size) B7.out⟩⟩
                    case measure => have := hlt; simp [intOf]; omega
            · have hl5 : decide ((m : Int) < (ps.length : Int)) = false := decide_eq_false (by omega)
              obtain rfl : m = ps.length := by omega
              rw [List.take_length] at hqs
              go_wp2_with fail
              go_ret
              refine ⟨_, rfl, ?_, below_then HB.out HB.out.size HW.out⟩
              have h1 := RowsO.S (RowsP.perm ((HP.out.below HW.out).sub (List.take_sublist ps.length ps)) hpm.out.symm) HQ.out
              have h2 : qs.map Prod.snd = r := by
                rw [hqs.out, hps.out, ← H.out, hrg.out, hk2.out]; rfl
              rw [h2] at h1
              exact h1
end Go.Proofs.Yteeghncofacmhaa.Q
end
