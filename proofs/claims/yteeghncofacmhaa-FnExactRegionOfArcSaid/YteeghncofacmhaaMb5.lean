/- The proof of FnExactRegionOfArc, part 6 of 6; no condition: the statement as it is given. Merged by pack.py out of this session's texts. -/
import Derived.Test.YteeghncofacmhaaRows
import Derived.WalkKit
import Derived.ProofKit
import Derived.OpenShut
import Derived.ChangeOld
import Derived.Below
import Derived.SizedLaws
import Derived.Test.YteeghncofacmhaaMb0
import Derived.Test.YteeghncofacmhaaMb2
import Derived.Test.YteeghncofacmhaaMb4
import Derived.Test.YteeghncofacmhaaMb3
section
namespace Go.Proofs.Yteeghncofacmhaa.Q
open Go.RowKit Go.Proofs.YteeghncofacmhaaW.PrintWords Go.Proofs.YteeghncofacmhaaW.PrintLast Go.Proofs.YteeghncofacmhaaW.PrintMore
attribute [local go_sem] max2_int min2_int max_two min_two max_three min_three max_four min_four   -- for this text's walks alone
set_option linter.unusedVariables false
set_option linter.unusedSimpArgs false
attribute [local go_sem high] eqA64
/-! ### spec_reArc: function 62 -/
mutual
def spec_reArc.l0 : Nat → List (S64) → Int → Int → List (List Int) → Int → Int → Option (Int)
  | 0, _, _, _, _, _, _ => none
  | k + 1, x1, x3, x9, x19, x20, x21 => if x21 < x20 then (if 0 ≤ x21 then (if x21 < (x19.length : Int) then ((spec_l1Has.f k (rd_L4 x19 x21) x3).bind fun t102 => (if t102 = true then ((spec_l1Has.f k (rd_L4 x19 x21) x9).bind fun t103 => (spec_reArc.j1 k x1 x3 x9 x21 (rd_L4 x19 x21) x19 x20 x21 (!t103))) else (spec_reArc.j1 k x1 x3 x9 x21 (rd_L4 x19 x21) x19 x20 x21 true))) else (none)) else (none)) else (some (-1))
def spec_reArc.j1 : Nat → List (S64) → Int → Int → Int → List Int → List (List Int) → Int → Int → Bool → Option (Int)
  | 0, _, _, _, _, _, _, _, _, _ => none
  | k + 1, x1, x3, x9, x10, x11, x19, x20, x21, x35 => if x35 = true then (spec_reArc.l0 k x1 x3 x9 x19 x20 (wrap64 (x21 + 1))) else (spec_reArc.l1 k x1 x3 x9 x10 x11 false x19 x20 x21 x1 (x1.length : Int) 0)
def spec_reArc.l1 : Nat → List (S64) → Int → Int → Int → List Int → Bool → List (List Int) → Int → Int → List (S64) → Int → Int → Option (Int)
  | 0, _, _, _, _, _, _, _, _, _, _, _, _ => none
  | k + 1, x1, x3, x9, x10, x11, x12, x19, x20, x21, x36, x37, x38 => if x38 < x37 then (if 0 ≤ x38 then (if x38 < (x36.length : Int) then (if x12 = true then (spec_reArc.l1 k x1 x3 x9 x10 x11 true x19 x20 x21 x36 x37 (wrap64 (x38 + 1))) else ((spec_srChord.f x3 x9).bind fun bt106 => (spec_reArc.l1 k x1 x3 x9 x10 x11 (((rd_T64 x36 x38).f0) == bt106.1 && (((rd_T64 x36 x38).f1) == bt106.2)) x19 x20 x21 x36 x37 (wrap64 (x38 + 1))))) else (none)) else (none)) else (if x12 = true then (if (x11.length : Int) = 2 then (some x10) else (spec_reArc.l0 k x1 x3 x9 x19 x20 (wrap64 (x21 + 1)))) else (some x10))
end
def spec_reArc.f (k : Nat) (a0 : Int) (l1 : List (S64)) (l2 : List (List Int)) (a3 : Int) : Option (Int) := if a0 = 0 then (none) else (spec_reArc.l0 k l1 a3 (Int.tmod (wrap64 (a3 + 1)) a0) l2 (l2.length : Int) 0)
def spec_reArc.T10 : Bool × List (List Nat × List Nat) := (true, [([], []), ([0], [0]), ([1], [1]), ([1], [1]), ([1], [1]), ([3, 4, 1, 1], [1, 3, 4]), ([2, 5, 1], [1, 2, 5]), ([1, 6], [1, 6]), ([7, 5, 0, 1, 2, 3, 4, 5, 6, 7], [0, 7])])
def spec_reArc.B10 : List Nat := [0, 1, 3, 3, 3, 27, 63, 127, 255]
theorem spec_reArc.tab10 : rtab .any (opsOf Try.f62 10) = spec_reArc.T10 := by kernel_rfl
theorem spec_reArc.bits10 : waitsOk spec_reArc.T10.2 spec_reArc.B10 = true := by kernel_rfl
set_option maxHeartbeats 8000000 in
set_option maxRecDepth 100000 in
theorem spec_reArc.calls (k : Nat) (a0 : Int) (A1 : Option Addr) (c1 : Nat) (l1 : List (S64)) (A2 : Option Addr) (c2 : Nat) (l2 : List (List Int)) (a3 : Int) (r : Int) (w : World) (hr1 : Kd.C k64 w A1 l1.length l1) (hc1 : l1.length ≤ c1) (hr2 : Kd.C (Kd.slice 3 (Kd.int .i64)) w A2 l2.length l2) (hc2 : l2.length ≤ c2) (h : spec_reArc.f k a0 l1 l2 a3 = some r) :
    Calls Try.prog 62 #[.int .i64 a0, .slice A1 l1.length c1, .slice A2 l2.length c2, .int .i64 a3] w fun e w' => e = .returned (.int .i64 r) ∧ Below w.heap.size w w' := by
  have hu64 := Try.underlying64
  have HR1 := Aside0.mk hr1
  have HC1 := Aside0.mk hc1
  clear hr1 hc1
  have HR2 := Aside0.mk hr2
  have HC2 := Aside0.mk hc2
  clear hr2 hc2
  have HB := Aside0.mk (Below.refl w.heap.size w)
  have H : (if a0 = 0 then (none) else (spec_reArc.l0 k l1 a3 (Int.tmod (wrap64 (a3 + 1)) a0) l2 (l2.length : Int) 0)) = some r := h
  clear h
  by_cases c5 : a0 = 0
  · rw [if_pos c5] at H
    exact absurd H (by simp)
  · rw [if_neg c5] at H
    have c5b0 : (a0 == 0) = false := beq_eq_false_iff_ne.mpr c5
    have c5b1 : (a0 != 0) = true := bne_iff_ne.mpr c5
    have H' := Aside0.mk H
    clear H
    go_enter Try.func62, Try.ntmps62
    go_wp2
    go_loopg [21] k (fun kq v21 w' => ∃ (x21_1 : Int), v21 = .int .i64 x21_1 ∧ Aside0 (spec_reArc.l0 kq l1 a3 (Int.tmod (wrap64 (a3 + 1)) a0) l2 (l2.length : Int) x21_1 = some r) ∧ Aside0 (kq ≤ k) ∧ Aside0 (Below w.heap.size w w'))
    case atStart => exact ⟨(0), (by first | rfl | (simp; done) | (simp [*]; done)), H', ⟨Nat.le_refl _⟩, ⟨by repeat (first | (with_reducible first | exact HB.out | apply below_alloc | apply pw_below_drewN | apply below_drew1) | exact HB.out)⟩⟩
    case round =>
      clear H'
      try clear c1
      try clear c2
      try clear p2
      try clear c5
      try clear c5b0
      try clear c5b1
      obtain ⟨x21_1, rfl, HA, HK1, HB⟩ := hrel
      cases gk with
      | zero => exact absurd HA.out (by simp [spec_reArc.l0])
      | succ k1 =>
        have H := HA.out
        clear HA
        simp only [spec_reArc.l0] at H
        by_cases c6 : x21_1 < (l2.length : Int)
        · rw [if_pos c6] at H
          have c6b0 : decide (x21_1 < (l2.length : Int)) = true := decide_eq_true c6
          clear c6
          by_cases c7 : 0 ≤ x21_1
          · rw [if_pos c7] at H
            have c7b0 : decide (0 ≤ x21_1) = true := decide_eq_true c7
            clear c7
            by_cases c8 : x21_1 < (l2.length : Int)
            · rw [if_pos c8] at H
              have c8b0 : decide (x21_1 < (l2.length : Int)) = true := decide_eq_true c8
              clear c8
              have HC9 := Aside0.mk H
              clear H
              have p101 : 0 ≤ (x21_1 : Int) := of_decide_eq_true (by first | (with_reducible assumption) | assumption)
              have q101 : x21_1 < (l2.length : Int) := of_decide_eq_true (by first | (with_reducible assumption) | assumption)
              obtain ⟨ad101, A101_0, c101_0, e101, hx101_0, hl101_0, hi101_0⟩ := at_L4 HR2.out x21_1 p101 q101
              cases e101
              replace hx101_0 := (HB.out.cell (World.block_lt_of_cell? w _ hx101_0)).trans hx101_0
              have HR101_0 := Aside0.mk hi101_0
              have HC101_0 := Aside0.mk hl101_0
              clear hi101_0 hl101_0
              replace p101 := eq_true p101
              replace q101 := eq_true q101
              go_upto_region 5 with (fail)
              go_cut [35] (fun v35 wc => ∃ (kq : Nat) (x35_8 : Bool), v35 = .bool x35_8 ∧ Aside0 (spec_reArc.j1 kq l1 a3 (Int.tmod (wrap64 (a3 + 1)) a0) x21_1 (rd_L4 l2 x21_1) l2 (l2.length : Int) x21_1 x35_8 = some r) ∧ Aside0 (kq ≤ k1) ∧ Aside0 (Below w.heap.size w wc))
              case first =>
                have H := HC9.out
                clear HC9
                replace H := Option.bind_eq_some_iff.mp H
                obtain ⟨t102, A100, H⟩ := H
                replace H : (if t102 = true then ((spec_l1Has.f k1 (rd_L4 l2 x21_1) (Int.tmod (wrap64 (a3 + 1)) a0)).bind fun t103 => (spec_reArc.j1 k1 l1 a3 (Int.tmod (wrap64 (a3 + 1)) a0) x21_1 (rd_L4 l2 x21_1) l2 (l2.length : Int) x21_1 (!t103))) else (spec_reArc.j1 k1 l1 a3 (Int.tmod (wrap64 (a3 + 1)) a0) x21_1 (rd_L4 l2 x21_1) l2 (l2.length : Int) x21_1 true)) = some r := H
                have A10 := Aside0.mk A100
                clear A100
                by_cases c11 : t102 = true
                · subst c11
                  have H1 : ((spec_l1Has.f k1 (rd_L4 l2 x21_1) (Int.tmod (wrap64 (a3 + 1)) a0)).bind fun t103 => (spec_reArc.j1 k1 l1 a3 (Int.tmod (wrap64 (a3 + 1)) a0) x21_1 (rd_L4 l2 x21_1) l2 (l2.length : Int) x21_1 (!t103))) = some r := by rw [if_pos rfl] at H; exact H
                  clear H
                  have H := H1
                  clear H1
                  replace H := Option.bind_eq_some_iff.mp H
                  obtain ⟨t103, A120, H⟩ := H
                  replace H : (spec_reArc.j1 k1 l1 a3 (Int.tmod (wrap64 (a3 + 1)) a0) x21_1 (rd_L4 l2 x21_1) l2 (l2.length : Int) x21_1 (!t103)) = some r := H
                  have A12 := Aside0.mk A120
                  clear A120
                  have H' := Aside0.mk H
                  clear H
                  go_wp2_with (first | ((with_reducible refine gate_callee (f := 69) rfl ?_); refine goesL_ (some 28) rfl rfl Try.func69 (by kernel_rfl) rfl #[.slice A101_0 (rd_L4 l2 x21_1).length c101_0, .int .i64 a3] rfl (by (try simp only [List.map_toArray, List.map_cons, List.map_nil]); first | done | rfl | (simp only [List.length_drop, List.length_take]; rfl)) ?_; (with_reducible refine (spec_l1Has.calls k1 _ _ (rd_L4 l2 x21_1) a3 true _ ?side1 ?side2 A10.out).mono ?_); (case side1 => repeat (first | exact (Kd.C_below HR101_0.out HB.out) | (with_reducible refine Kd.C_alloc ?_ _) | (with_reducible refine Kd.C_drewN ?_ _) | (with_reducible refine Kd.C_drew ?_))); (case side2 => exact HC101_0.out); rintro e w' ⟨rfl, ⟨nd, rfl⟩⟩; refine ⟨_, rfl, ?_⟩) | (go_at_call 69; (with_reducible refine (spec_l1Has.calls k1 _ _ (rd_L4 l2 x21_1) (Int.tmod (wrap64 (a3 + 1)) a0) t103 _ ?side1 ?side2 A12.out).mono ?_); (case side1 => repeat (first | exact (Kd.C_below HR101_0.out (by repeat (first | (with_reducible first | exact HB.out | apply below_alloc | apply pw_below_drewN | apply below_drew1) | exact HB.out))) | (with_reducible refine Kd.C_alloc ?_ _) | (with_reducible refine Kd.C_drewN ?_ _) | (with_reducible refine Kd.C_drew ?_))); (case side2 => exact HC101_0.out); rintro e w' ⟨rfl, ⟨nd, rfl⟩⟩))
                  go_meet
                  case rel => exact ⟨_, (!t103), (by first | rfl | (simp; done) | (simp [*]; done)), H', ⟨by have := HK1.out; first | omega | exact Nat.le_refl _⟩, ⟨by repeat (first | (with_reducible first | exact HB.out | apply below_alloc | apply pw_below_drewN | apply below_drew1) | exact HB.out)⟩⟩
                · replace c11 := Bool.eq_false_iff.mpr c11
                  subst c11
                  have H1 : (spec_reArc.j1 k1 l1 a3 (Int.tmod (wrap64 (a3 + 1)) a0) x21_1 (rd_L4 l2 x21_1) l2 (l2.length : Int) x21_1 true) = some r := by rw [if_neg (show ¬ (false = true) by decide)] at H; exact H
                  clear H
                  have H := H1
                  clear H1
                  have H' := Aside0.mk H
                  clear H
                  go_wp2_with (first | ((with_reducible refine gate_callee (f := 69) rfl ?_); refine goesL_ (some 28) rfl rfl Try.func69 (by kernel_rfl) rfl #[.slice A101_0 (rd_L4 l2 x21_1).length c101_0, .int .i64 a3] rfl (by (try simp only [List.map_toArray, List.map_cons, List.map_nil]); first | done | rfl | (simp only [List.length_drop, List.length_take]; rfl)) ?_; (with_reducible refine (spec_l1Has.calls k1 _ _ (rd_L4 l2 x21_1) a3 false _ ?side1 ?side2 A10.out).mono ?_); (case side1 => repeat (first | exact (Kd.C_below HR101_0.out HB.out) | (with_reducible refine Kd.C_alloc ?_ _) | (with_reducible refine Kd.C_drewN ?_ _) | (with_reducible refine Kd.C_drew ?_))); (case side2 => exact HC101_0.out); rintro e w' ⟨rfl, ⟨nd, rfl⟩⟩; refine ⟨_, rfl, ?_⟩))
                  go_meet
                  case rel => exact ⟨_, (true), (by first | rfl | (simp; done) | (simp [*]; done)), H', ⟨by have := HK1.out; first | omega | exact Nat.le_refl _⟩, ⟨by repeat (first | (with_reducible first | exact HB.out | apply below_alloc | apply pw_below_drewN | apply below_drew1) | exact HB.out)⟩⟩
              case rest =>
                clear HC9
                try clear c1
                try clear p1
                try clear q1
                try clear hx1
                try clear c2
                try clear p2
                try clear c5
                try clear c5b0
                try clear c5b1
                try clear c6
                try clear c6b0
                try clear p6
                try clear c7
                try clear c7b0
                try clear c8
                try clear c8b0
                try clear c10
                try clear p10
                try clear q10
                try clear hx10
                try clear c11
                try clear hx101_0
                try clear p101
                try clear p2
                try clear q101
                obtain ⟨kq, x35_8, rfl, HA, HJ8, HB⟩ := hcut
                cases kq with
                | zero => exact absurd HA.out (by simp [spec_reArc.j1])
                | succ kj8 =>
                  have H := HA.out
                  clear HA
                  simp only [spec_reArc.j1] at H
                  by_cases c13 : x35_8 = true
                  · subst c13
                    have H1 : (spec_reArc.l0 kj8 l1 a3 (Int.tmod (wrap64 (a3 + 1)) a0) l2 (l2.length : Int) (wrap64 (x21_1 + 1))) = some r := by rw [if_pos rfl] at H; exact H
                    clear H
                    have H := H1
                    clear H1
                    have H' := Aside0.mk H
                    clear H
                    go_wp2
                    go_roundg kj8
                    case measure => have := HK1.out; have := HJ8.out; omega
                    case rel => exact ⟨(wrap64 (x21_1 + 1)), (by first | rfl | (simp; done) | (simp [*]; done)), H', ⟨by have := HK1.out; have := HJ8.out; omega⟩, ⟨by repeat (first | (with_reducible first | exact HB.out | apply below_alloc | apply pw_below_drewN | apply below_drew1) | exact HB.out)⟩⟩
                  · replace c13 := Bool.eq_false_iff.mpr c13
                    subst c13
                    have H1 : (spec_reArc.l1 kj8 l1 a3 (Int.tmod (wrap64 (a3 + 1)) a0) x21_1 (rd_L4 l2 x21_1) false l2 (l2.length : Int) x21_1 l1 (l1.length : Int) 0) = some r := by rw [if_neg (show ¬ (false = true) by decide)] at H; exact H
                    clear H
                    have H := H1
                    clear H1
                    have H' := Aside0.mk H
                    clear H
                    go_wp2
                    go_loopg [12, 38] kj8 (fun kq v12 v38 w' => ∃ (x12_3 : Bool) (x38_3 : Int), v12 = .bool x12_3 ∧ v38 = .int .i64 x38_3 ∧ Aside0 (spec_reArc.l1 kq l1 a3 (Int.tmod (wrap64 (a3 + 1)) a0) x21_1 (rd_L4 l2 x21_1) x12_3 l2 (l2.length : Int) x21_1 l1 (l1.length : Int) x38_3 = some r) ∧ Aside0 (kq ≤ kj8) ∧ Aside0 (Below w.heap.size w w'))
                    case atStart => exact ⟨(false), (0), (by first | rfl | (simp; done) | (simp [*]; done)), (by first | rfl | (simp; done) | (simp [*]; done)), H', ⟨Nat.le_refl _⟩, ⟨by repeat (first | (with_reducible first | exact HB.out | apply below_alloc | apply pw_below_drewN | apply below_drew1) | exact HB.out)⟩⟩
                    case round =>
                      clear H'
                      try clear c1
                      try clear p1
                      try clear q1
                      try clear hx1
                      try clear c2
                      try clear p2
                      try clear c5
                      try clear c5b0
                      try clear c5b1
                      try clear c6
                      try clear c6b0
                      try clear p6
                      try clear c7
                      try clear c7b0
                      try clear c8
                      try clear c8b0
                      try clear c10
                      try clear p10
                      try clear q10
                      try clear hx10
                      try clear c11
                      try clear c13
                      try clear hx101_0
                      try clear p1
                      try clear p10
                      try clear p101
                      try clear p2
                      try clear p6
                      try clear q1
                      try clear q10
                      try clear q101
                      obtain ⟨x12_3, x38_3, rfl, rfl, HA, HK3, HB⟩ := hrel
                      cases gk with
                      | zero => exact absurd HA.out (by simp [spec_reArc.l1])
                      | succ k3 =>
                        have H := HA.out
                        clear HA
                        simp only [spec_reArc.l1] at H
                        by_cases c14 : x38_3 < (l1.length : Int)
                        · rw [if_pos c14] at H
                          have c14b0 : decide (x38_3 < (l1.length : Int)) = true := decide_eq_true c14
                          clear c14
                          by_cases c15 : 0 ≤ x38_3
                          · rw [if_pos c15] at H
                            have c15b0 : decide (0 ≤ x38_3) = true := decide_eq_true c15
                            clear c15
                            by_cases c16 : x38_3 < (l1.length : Int)
                            · rw [if_pos c16] at H
                              have c16b0 : decide (x38_3 < (l1.length : Int)) = true := decide_eq_true c16
                              clear c16
                              by_cases c17 : x12_3 = true
                              · subst c17
                                have H1 : (spec_reArc.l1 k3 l1 a3 (Int.tmod (wrap64 (a3 + 1)) a0) x21_1 (rd_L4 l2 x21_1) true l2 (l2.length : Int) x21_1 l1 (l1.length : Int) (wrap64 (x38_3 + 1))) = some r := by rw [if_pos rfl] at H; exact H
                                clear H
                                have H := H1
                                clear H1
                                have H' := Aside0.mk H
                                clear H
                                have p104 : 0 ≤ (x38_3 : Int) := of_decide_eq_true (by first | (with_reducible assumption) | assumption)
                                have q104 : x38_3 < (l1.length : Int) := of_decide_eq_true (by first | (with_reducible assumption) | assumption)
                                obtain ⟨ad104, e104, hx104_0, hx104_1⟩ := at_T64 HR1.out x38_3 p104 q104
                                cases e104
                                replace hx104_0 := (HB.out.cell (World.block_lt_of_cell? w _ hx104_0)).trans hx104_0
                                replace hx104_1 := (HB.out.cell (World.block_lt_of_cell? w _ hx104_1)).trans hx104_1
                                replace p104 := eq_true p104
                                replace q104 := eq_true q104
                                try go_wp2_with (first | ((with_reducible refine gate_dst (N := 14) rfl ?_); (try (refine gate_guard (by rfl) ?_; dsimp only)); refine box_event ?hg (N := 14) ?hd (cs := #[.int .i64 0, .int .i64 0]) (t := 64) ?hr ?_; (case hd => rfl); (case hg => rfl); (case hr => first | (go_simp; done) | (go_simp; rfl)); intro gb105 hg w18 hbox hb; have n0_ := Aside0.mk (below_step (by repeat (first | (with_reducible first | exact HB.out | apply below_alloc | apply pw_below_drewN | apply below_drew1) | exact HB.out)) hb); have n1_ := Aside0.mk (hbox); have n2_ := Aside0.mk ((by rw [hg]; exact (below_size (by repeat (first | (with_reducible first | exact HB.out | apply below_alloc | apply pw_below_drewN | apply below_drew1) | exact HB.out))) : w.heap.size ≤ gb105)); have n3_ := Aside0.mk ((by rw [hg]; exact (below_size (by repeat (first | (with_reducible first | exact HB.out | apply below_alloc | apply pw_below_drewN | apply below_drew1) | exact HB.out))) : w.heap.size ≤ gb105)); clear HB; have HB := n0_; have BK105 := n1_; have GW105 := n2_; have GE105 := n3_; clear n0_ n1_ n2_ n3_; clear hb hbox hg; have hcz19_0 : w18.cell? ⟨gb105, 0, none⟩ = some (.int .i64 0) := (blk_cell BK105.out 0).trans rfl; have hcz19_1 : w18.cell? ⟨gb105, 1, none⟩ = some (.int .i64 0) := (blk_cell BK105.out 1).trans rfl; have hfz19_0 := blk_frozen BK105.out 0; have hfz19_1 := blk_frozen BK105.out 1))
                                have n0_ : Aside0 (((w18.setCell ⟨gb105, 0, none⟩ (.int .i64 ((rd_T64 l1 x38_3).f0))).setCell ⟨gb105, 1, none⟩ (.int .i64 ((rd_T64 l1 x38_3).f1))).heap[gb105]? = some (.cells #[.int .i64 ((rd_T64 l1 x38_3).f0), .int .i64 ((rd_T64 l1 x38_3).f1)] 64 (0, 0))) := ⟨by (with_reducible repeat (first | refine blk_drewN ?_ _ | refine blk_drew ?_ | refine blk_alloc ?_ _)); refine blk_put (cs := #[.int .i64 ((rd_T64 l1 x38_3).f0), .int .i64 0]) ?_ 1 _ rfl; (with_reducible repeat (first | refine blk_drewN ?_ _ | refine blk_drew ?_ | refine blk_alloc ?_ _)); refine blk_put (cs := #[.int .i64 0, .int .i64 0]) ?_ 0 _ rfl; (with_reducible repeat (first | refine blk_drewN ?_ _ | refine blk_drew ?_ | refine blk_alloc ?_ _)); exact BK105.out⟩
                                have n1_ : Aside0 (Below w.heap.size w ((w18.setCell ⟨gb105, 0, none⟩ (.int .i64 ((rd_T64 l1 x38_3).f0))).setCell ⟨gb105, 1, none⟩ (.int .i64 ((rd_T64 l1 x38_3).f1)))) := ⟨by repeat (first | (with_reducible first | exact HB.out | apply below_alloc | apply pw_below_drewN | apply below_drew1 | refine below_set ?_ GE105.out) | exact HB.out)⟩
                                (try clear BK105)
                                (try clear HB)
                                generalize ((w18.setCell ⟨gb105, 0, none⟩ (.int .i64 ((rd_T64 l1 x38_3).f0))).setCell ⟨gb105, 1, none⟩ (.int .i64 ((rd_T64 l1 x38_3).f1))) = w20 at n0_ n1_ ⊢
                                have BK105 := n0_
                                have HB := n1_
                                clear n0_ n1_
                                have n0_ := Aside0.mk (blk_drew BK105.out)
                                have n1_ := Aside0.mk (below_drew1 HB.out)
                                clear BK105
                                clear HB
                                have BK105 := n0_
                                have HB := n1_
                                clear n0_ n1_
                                refine start_ (n := 9) (S := fun w' => True) (ds := []) #[false, false, false, false, false, false, false, false, false] (by kernel_rfl) rfl rfl trivial (fun hHeld => ?_); refine with_tabW spec_reArc.tab10 spec_reArc.bits10 (fun HT_ HW_ => ?_)
                                generalize w20.drew = w21 at BK105 HB hHeld ⊢
                                refine pure_ (i := 0) (N := some 42) (v := ?_) (a' := ?_) #[true, false, false, false, false, false, false, false, false] rfl rfl (any_of HT_.out (by kernel_rfl)) (fun _ _ _ h => h) (Or.inl ⟨by rfl, ?_⟩) ?_ ?_
                                rotate_left
                                · intro w'
                                  go_simp
                                  with_reducible rfl
                                rotate_left
                                · simp only [Act.put, List.setIfInBounds_toArray, List.set_cons_zero, List.set_cons_succ, i64_w, i32_w]
                                  rfl
                                refine pure_ (i := 1) (N := some 43) (v := ?_) (a' := ?_) #[true, true, false, false, false, false, false, false, false] rfl rfl (any_of HT_.out (by kernel_rfl)) (fun _ _ _ h => h) (Or.inl ⟨by rfl, ?_⟩) ?_ ?_
                                rotate_left
                                · intro w'
                                  go_simp
                                  with_reducible rfl
                                rotate_left
                                · simp only [Act.put, List.setIfInBounds_toArray, List.set_cons_zero, List.set_cons_succ, i64_w, i32_w]
                                  rfl
                                refine pure_ (i := 2) (N := some 44) (v := undef) (a' := ?_) #[true, true, true, false, false, false, false, false, false] rfl rfl (any_of HT_.out (by kernel_rfl)) (fun _ _ _ h => h) (Or.inr ⟨by rfl, rfl⟩) ?_ ?_
                                rotate_left
                                · simp only [Act.put, List.setIfInBounds_toArray, List.set_cons_zero, List.set_cons_succ, i64_w, i32_w]
                                  rfl
                                refine pure_ (i := 3) (N := some 45) (v := undef) (a' := ?_) #[true, true, true, true, false, false, false, false, false] rfl rfl (any_of HT_.out (by kernel_rfl)) (fun _ _ _ h => h) (Or.inr ⟨by rfl, rfl⟩) ?_ ?_
                                rotate_left
                                · simp only [Act.put, List.setIfInBounds_toArray, List.set_cons_zero, List.set_cons_succ, i64_w, i32_w]
                                  rfl
                                refine pure_ (i := 4) (N := some 46) (v := undef) (a' := ?_) #[true, true, true, true, true, false, false, false, false] rfl rfl (any_of HT_.out (by kernel_rfl)) (fun _ _ _ h => h) (Or.inr ⟨by rfl, rfl⟩) ?_ ?_
                                rotate_left
                                · simp only [Act.put, List.setIfInBounds_toArray, List.set_cons_zero, List.set_cons_succ, i64_w, i32_w]
                                  rfl
                                refine pure_ (i := 5) (N := some 47) (v := undef) (a' := ?_) #[true, true, true, true, true, true, false, false, false] rfl rfl (any_of HT_.out (by kernel_rfl)) (fun _ _ _ h => h) (Or.inr ⟨by rfl, rfl⟩) ?_ ?_
                                rotate_left
                                · simp only [Act.put, List.setIfInBounds_toArray, List.set_cons_zero, List.set_cons_succ, i64_w, i32_w]
                                  rfl
                                refine pure_ (i := 6) (N := some 48) (v := undef) (a' := ?_) #[true, true, true, true, true, true, true, false, false] rfl rfl (any_of HT_.out (by kernel_rfl)) (fun _ _ _ h => h) (Or.inr ⟨by rfl, rfl⟩) ?_ ?_
                                rotate_left
                                · simp only [Act.put, List.setIfInBounds_toArray, List.set_cons_zero, List.set_cons_succ, i64_w, i32_w]
                                  rfl
                                refine pure_ (i := 7) (N := some 49) (v := ?_) (a' := ?_) #[true, true, true, true, true, true, true, true, false] rfl rfl (any_of HT_.out (by kernel_rfl)) (fun _ _ _ h => h) (Or.inl ⟨by rfl, ?_⟩) ?_ ?_
                                rotate_left
                                · intro w'
                                  go_simp
                                  with_reducible rfl
                                rotate_left
                                · simp only [Act.put, List.setIfInBounds_toArray, List.set_cons_zero, List.set_cons_succ, i64_w, i32_w]
                                  rfl
                                refine pure_ (i := 8) (N := some 12) (v := ?_) (a' := ?_) #[true, true, true, true, true, true, true, true, true] rfl rfl (any_of HT_.out (by kernel_rfl)) (fun _ _ _ h => h) (Or.inl ⟨by rfl, ?_⟩) ?_ ?_
                                rotate_left
                                · intro w'
                                  go_simp
                                  with_reducible rfl
                                rotate_left
                                · simp only [Act.put, List.setIfInBounds_toArray, List.set_cons_zero, List.set_cons_succ, i64_w, i32_w]
                                  rfl
                                refine done_ (done_of HT_.out (by kernel_rfl)) ?_
                                try go_wp2
                                go_roundg k3
                                case measure => have := HK1.out; have := HJ8.out; have := HK3.out; omega
                                case rel => exact ⟨(true), (wrap64 (x38_3 + 1)), (by first | rfl | (simp; done) | (simp [*]; done)), (by first | rfl | (simp; done) | (simp [*]; done)), H', ⟨by have := HK1.out; have := HJ8.out; have := HK3.out; omega⟩, ⟨by repeat (first | (with_reducible first | exact HB.out | apply below_alloc | apply pw_below_drewN | apply below_drew1 | refine below_set ?_ GE105.out) | exact HB.out)⟩⟩
                              · replace c17 := Bool.eq_false_iff.mpr c17
                                subst c17
                                have H1 : ((spec_srChord.f a3 (Int.tmod (wrap64 (a3 + 1)) a0)).bind fun bt106 => (spec_reArc.l1 k3 l1 a3 (Int.tmod (wrap64 (a3 + 1)) a0) x21_1 (rd_L4 l2 x21_1) (((rd_T64 l1 x38_3).f0) == bt106.1 && (((rd_T64 l1 x38_3).f1) == bt106.2)) l2 (l2.length : Int) x21_1 l1 (l1.length : Int) (wrap64 (x38_3 + 1)))) = some r := by rw [if_neg (show ¬ (false = true) by decide)] at H; exact H
                                clear H
                                have H := H1
                                clear H1
                                replace H := Option.bind_eq_some_iff.mp H
                                obtain ⟨⟨t106, t107⟩, A220, H⟩ := H
                                replace H : (spec_reArc.l1 k3 l1 a3 (Int.tmod (wrap64 (a3 + 1)) a0) x21_1 (rd_L4 l2 x21_1) (((rd_T64 l1 x38_3).f0) == t106 && (((rd_T64 l1 x38_3).f1) == t107)) l2 (l2.length : Int) x21_1 l1 (l1.length : Int) (wrap64 (x38_3 + 1))) = some r := H
                                have A22 := Aside0.mk A220
                                clear A220
                                have H' := Aside0.mk H
                                clear H
                                have p104 : 0 ≤ (x38_3 : Int) := of_decide_eq_true (by first | (with_reducible assumption) | assumption)
                                have q104 : x38_3 < (l1.length : Int) := of_decide_eq_true (by first | (with_reducible assumption) | assumption)
                                obtain ⟨ad104, e104, hx104_0, hx104_1⟩ := at_T64 HR1.out x38_3 p104 q104
                                cases e104
                                replace hx104_0 := (HB.out.cell (World.block_lt_of_cell? w _ hx104_0)).trans hx104_0
                                replace hx104_1 := (HB.out.cell (World.block_lt_of_cell? w _ hx104_1)).trans hx104_1
                                replace p104 := eq_true p104
                                replace q104 := eq_true q104
                                try go_wp2_with (first | ((with_reducible refine gate_dst (N := 14) rfl ?_); (try (refine gate_guard (by rfl) ?_; dsimp only)); refine box_event ?hg (N := 14) ?hd (cs := #[.int .i64 0, .int .i64 0]) (t := 64) ?hr ?_; (case hd => rfl); (case hg => rfl); (case hr => first | (go_simp; done) | (go_simp; rfl)); intro gb105 hg w23 hbox hb; have n0_ := Aside0.mk (below_step (by repeat (first | (with_reducible first | exact HB.out | apply below_alloc | apply pw_below_drewN | apply below_drew1) | exact HB.out)) hb); have n1_ := Aside0.mk (hbox); have n2_ := Aside0.mk ((by rw [hg]; exact (below_size (by repeat (first | (with_reducible first | exact HB.out | apply below_alloc | apply pw_below_drewN | apply below_drew1) | exact HB.out))) : w.heap.size ≤ gb105)); have n3_ := Aside0.mk ((by rw [hg]; exact (below_size (by repeat (first | (with_reducible first | exact HB.out | apply below_alloc | apply pw_below_drewN | apply below_drew1) | exact HB.out))) : w.heap.size ≤ gb105)); clear HB; have HB := n0_; have BK105 := n1_; have GW105 := n2_; have GE105 := n3_; clear n0_ n1_ n2_ n3_; clear hb hbox hg; have hcz24_0 : w23.cell? ⟨gb105, 0, none⟩ = some (.int .i64 0) := (blk_cell BK105.out 0).trans rfl; have hcz24_1 : w23.cell? ⟨gb105, 1, none⟩ = some (.int .i64 0) := (blk_cell BK105.out 1).trans rfl; have hfz24_0 := blk_frozen BK105.out 0; have hfz24_1 := blk_frozen BK105.out 1))
                                have n0_ : Aside0 (((w23.setCell ⟨gb105, 0, none⟩ (.int .i64 ((rd_T64 l1 x38_3).f0))).setCell ⟨gb105, 1, none⟩ (.int .i64 ((rd_T64 l1 x38_3).f1))).heap[gb105]? = some (.cells #[.int .i64 ((rd_T64 l1 x38_3).f0), .int .i64 ((rd_T64 l1 x38_3).f1)] 64 (0, 0))) := ⟨by (with_reducible repeat (first | refine blk_drewN ?_ _ | refine blk_drew ?_ | refine blk_alloc ?_ _)); refine blk_put (cs := #[.int .i64 ((rd_T64 l1 x38_3).f0), .int .i64 0]) ?_ 1 _ rfl; (with_reducible repeat (first | refine blk_drewN ?_ _ | refine blk_drew ?_ | refine blk_alloc ?_ _)); refine blk_put (cs := #[.int .i64 0, .int .i64 0]) ?_ 0 _ rfl; (with_reducible repeat (first | refine blk_drewN ?_ _ | refine blk_drew ?_ | refine blk_alloc ?_ _)); exact BK105.out⟩
                                have n1_ : Aside0 (Below w.heap.size w ((w23.setCell ⟨gb105, 0, none⟩ (.int .i64 ((rd_T64 l1 x38_3).f0))).setCell ⟨gb105, 1, none⟩ (.int .i64 ((rd_T64 l1 x38_3).f1)))) := ⟨by repeat (first | (with_reducible first | exact HB.out | apply below_alloc | apply pw_below_drewN | apply below_drew1 | refine below_set ?_ GE105.out) | exact HB.out)⟩
                                (try clear BK105)
                                (try clear HB)
                                generalize ((w23.setCell ⟨gb105, 0, none⟩ (.int .i64 ((rd_T64 l1 x38_3).f0))).setCell ⟨gb105, 1, none⟩ (.int .i64 ((rd_T64 l1 x38_3).f1))) = w25 at n0_ n1_ ⊢
                                have BK105 := n0_
                                have HB := n1_
                                clear n0_ n1_
                                have n0_ := Aside0.mk (blk_drew BK105.out)
                                have n1_ := Aside0.mk (below_drew1 HB.out)
                                clear BK105
                                clear HB
                                have BK105 := n0_
                                have HB := n1_
                                clear n0_ n1_
                                refine start_ (n := 9) (S := fun w' => w'.cell? ⟨gb105, 0, none⟩ = some (.int .i64 ((rd_T64 l1 x38_3).f0)) ∧ w'.cell? ⟨gb105, 1, none⟩ = some (.int .i64 ((rd_T64 l1 x38_3).f1))) (ds := []) #[false, false, false, false, false, false, false, false, false] (by kernel_rfl) rfl rfl ⟨(blk_cell BK105.out 0).trans rfl, (blk_cell BK105.out 1).trans rfl⟩ (fun hHeld => ?_); refine with_tabW spec_reArc.tab10 spec_reArc.bits10 (fun HT_ HW_ => ?_)
                                generalize w25.drew = w26 at BK105 HB hHeld ⊢
                                refine pure_ (i := 0) (N := some 42) (v := ?_) (a' := ?_) #[true, false, false, false, false, false, false, false, false] rfl rfl (any_of HT_.out (by kernel_rfl)) (fun _ _ _ h => h) (Or.inl ⟨by rfl, ?_⟩) ?_ ?_
                                rotate_left
                                · intro w'
                                  go_simp
                                  with_reducible rfl
                                rotate_left
                                · simp only [Act.put, List.setIfInBounds_toArray, List.set_cons_zero, List.set_cons_succ, i64_w, i32_w]
                                  rfl
                                refine pure_ (i := 1) (N := some 43) (v := ?_) (a' := ?_) #[true, true, false, false, false, false, false, false, false] rfl rfl (any_of HT_.out (by kernel_rfl)) (fun _ _ _ h => h) (Or.inl ⟨by rfl, ?_⟩) ?_ ?_
                                rotate_left
                                · intro w'
                                  go_simp
                                  with_reducible rfl
                                rotate_left
                                · simp only [Act.put, List.setIfInBounds_toArray, List.set_cons_zero, List.set_cons_succ, i64_w, i32_w]
                                  rfl
                                refine pure_ (i := 3) (N := some 45) (v := ?_) (a' := ?_) #[true, true, false, true, false, false, false, false, false] rfl rfl (any_of HT_.out (by kernel_rfl)) (fun _ _ _ h => h) (Or.inl ⟨by rfl, ?_⟩) ?_ ?_
                                rotate_left
                                · intro w'
                                  go_simp
                                  with_reducible rfl
                                rotate_left
                                · simp only [Act.put, List.setIfInBounds_toArray, List.set_cons_zero, List.set_cons_succ, i64_w, i32_w]
                                  rfl
                                refine pure_ (i := 4) (N := some 46) (v := ?_) (a' := ?_) #[true, true, false, true, true, false, false, false, false] rfl rfl (any_of HT_.out (by kernel_rfl)) (fun _ _ _ h => h) (Or.inl ⟨by rfl, ?_⟩) ?_ ?_
                                rotate_left
                                · intro w'
                                  go_simp
                                  with_reducible rfl
                                rotate_left
                                · simp only [Act.put, List.setIfInBounds_toArray, List.set_cons_zero, List.set_cons_succ, i64_w, i32_w]
                                  rfl
                                refine take_ (i := 2) (N := some 44) (v := ?_) (a' := ?_) #[true, true, true, true, true, false, false, false, false] rfl rfl (take_ofW HT_.out HW_.out (by kernel_rfl)) (fun _ _ _ h => h) (Or.inl ⟨by rfl, ?_⟩) hHeld ?_ ?_
                                rotate_left
                                · rintro w' ⟨s0, s1⟩
                                  go_simp
                                  with_reducible rfl
                                rotate_left
                                · simp only [Act.put, List.setIfInBounds_toArray, List.set_cons_zero, List.set_cons_succ, i64_w, i32_w]
                                  rfl
                                refine one_ (i := 5) (N := some 47) #[true, true, true, true, true, true, false, false, false] rfl rfl (one_of HT_.out (by kernel_rfl)) (by decide) (fun K hK => ?_)
                                refine goes_ Try.func108 (by kernel_rfl) rfl #[.int .i64 a3, .int .i64 (Int.tmod (wrap64 (a3 + 1)) a0)] (by rfl) rfl rfl (by (try simp only [List.map_toArray, List.map_cons, List.map_nil]); first | done | rfl | (simp only [List.length_drop, List.length_take]; rfl)) ?_
                                with_reducible refine (spec_srChord.calls a3 (Int.tmod (wrap64 (a3 + 1)) a0) t106 t107 _ A22.out).mono ?_
                                rintro e w27 ⟨rfl, hb⟩
                                refine ⟨_, rfl, ?_⟩
                                have n0_ := Aside0.mk (blk_below (g := gb105) (o := .cells #[.int .i64 ((rd_T64 l1 x38_3).f0), .int .i64 ((rd_T64 l1 x38_3).f1)] 64 (0, 0)) (by (with_reducible repeat (first | refine blk_drewN ?_ _ | refine blk_drew ?_ | refine blk_alloc ?_ _)); exact BK105.out) hb)
                                have n1_ := Aside0.mk (below_step (by repeat (first | (with_reducible first | exact HB.out | apply below_alloc | apply pw_below_drewN | apply below_drew1 | refine below_set ?_ GE105.out) | exact HB.out)) hb)
                                clear BK105
                                clear HB
                                have BK105 := n0_
                                have HB := n1_
                                clear n0_ n1_
                                (try clear hb)
                                (try clear hb2)
                                (try clear hk)
                                (try clear hi)
                                refine hK.out _ _ ⟨(blk_cell BK105.out 0).trans rfl, (blk_cell BK105.out 1).trans rfl⟩ (fun hHeld => ?_)
                                clear hK K
                                refine norm_ (a' := ?_) ?_ ?_
                                rotate_left
                                · show Act.put _ (some 47) _ = _
                                  simp only [Act.put, List.setIfInBounds_toArray, List.set_cons_zero, List.set_cons_succ, i64_w, i32_w]
                                  rfl
                                refine pure_ (i := 6) (N := some 48) (v := ?_) (a' := ?_) #[true, true, true, true, true, true, true, false, false] rfl rfl (any_of HT_.out (by kernel_rfl)) (fun _ _ _ h => h) (Or.inl ⟨by rfl, ?_⟩) ?_ ?_
                                rotate_left
                                · intro w'
                                  go_simp
                                  with_reducible rfl
                                rotate_left
                                · simp only [Act.put, List.setIfInBounds_toArray, List.set_cons_zero, List.set_cons_succ, i64_w, i32_w]
                                  rfl
                                refine pure_ (i := 7) (N := some 49) (v := ?_) (a' := ?_) #[true, true, true, true, true, true, true, true, false] rfl rfl (any_of HT_.out (by kernel_rfl)) (fun _ _ _ h => h) (Or.inl ⟨by rfl, ?_⟩) ?_ ?_
                                rotate_left
                                · intro w'
                                  go_simp
                                  with_reducible rfl
                                rotate_left
                                · simp only [Act.put, List.setIfInBounds_toArray, List.set_cons_zero, List.set_cons_succ, i64_w, i32_w]
                                  rfl
                                refine pure_ (i := 8) (N := some 12) (v := ?_) (a' := ?_) #[true, true, true, true, true, true, true, true, true] rfl rfl (any_of HT_.out (by kernel_rfl)) (fun _ _ _ h => h) (Or.inl ⟨by rfl, ?_⟩) ?_ ?_
                                rotate_left
                                · intro w'
                                  go_simp
                                  with_reducible rfl
                                rotate_left
                                · simp only [Act.put, List.setIfInBounds_toArray, List.set_cons_zero, List.set_cons_succ, i64_w, i32_w]
                                  rfl
                                refine done_ (done_of HT_.out (by kernel_rfl)) ?_
                                try go_wp2
                                go_roundg k3
                                case measure => have := HK1.out; have := HJ8.out; have := HK3.out; omega
                                case rel => exact ⟨((((rd_T64 l1 x38_3).f0) == t106 && (((rd_T64 l1 x38_3).f1) == t107))), (wrap64 (x38_3 + 1)), (by first | rfl | (simp; done) | (simp [*]; done)), (by first | rfl | (simp; done) | (simp [*]; done)), H', ⟨by have := HK1.out; have := HJ8.out; have := HK3.out; omega⟩, ⟨by repeat (first | (with_reducible first | exact HB.out | apply below_alloc | apply pw_below_drewN | apply below_drew1 | refine below_set ?_ GE105.out) | exact HB.out)⟩⟩
                            · rw [if_neg c16] at H
                              exact absurd H (by simp)
                          · rw [if_neg c15] at H
                            exact absurd H (by simp)
                        · rw [if_neg c14] at H
                          have c14b0 : decide (x38_3 < (l1.length : Int)) = false := decide_eq_false c14
                          clear c14
                          by_cases c28 : x12_3 = true
                          · subst c28
                            have H1 : (if ((rd_L4 l2 x21_1).length : Int) = 2 then (some x21_1) else (spec_reArc.l0 k3 l1 a3 (Int.tmod (wrap64 (a3 + 1)) a0) l2 (l2.length : Int) (wrap64 (x21_1 + 1)))) = some r := by rw [if_pos rfl] at H; exact H
                            clear H
                            have H := H1
                            clear H1
                            by_cases c29 : ((rd_L4 l2 x21_1).length : Int) = 2
                            · rw [if_pos c29] at H
                              have c29b0 : (((rd_L4 l2 x21_1).length : Int) == 2) = true := beq_iff_eq.mpr c29
                              have c29b1 : (((rd_L4 l2 x21_1).length : Int) != 2) = false := bne_eq_false_iff_eq.mpr c29
                              clear c29
                              obtain rfl := Option.some.inj H
                              go_wp2
                              go_ret
                              exact ⟨by first | rfl | (simp [errW_none, errW_some] <;> rfl) | (simp [*, errW_none, errW_some] <;> rfl), by repeat (first | (with_reducible first | exact HB.out | apply below_alloc | apply pw_below_drewN | apply below_drew1) | exact HB.out)⟩
                            · rw [if_neg c29] at H
                              have c29b0 : (((rd_L4 l2 x21_1).length : Int) == 2) = false := beq_eq_false_iff_ne.mpr c29
                              have c29b1 : (((rd_L4 l2 x21_1).length : Int) != 2) = true := bne_iff_ne.mpr c29
                              have H' := Aside0.mk H
                              clear H
                              go_wp2
                              go_roundg k3
                              case measure => have := HK1.out; have := HJ8.out; have := HK3.out; omega
                              case rel => exact ⟨(wrap64 (x21_1 + 1)), (by first | rfl | (simp; done) | (simp [*]; done)), H', ⟨by have := HK1.out; have := HJ8.out; have := HK3.out; omega⟩, ⟨by repeat (first | (with_reducible first | exact HB.out | apply below_alloc | apply pw_below_drewN | apply below_drew1) | exact HB.out)⟩⟩
                          · replace c28 := Bool.eq_false_iff.mpr c28
                            subst c28
                            have H1 : (some x21_1) = some r := by rw [if_neg (show ¬ (false = true) by decide)] at H; exact H
                            clear H
                            have H := H1
                            clear H1
                            obtain rfl := Option.some.inj H
                            go_wp2
                            go_ret
                            exact ⟨by first | rfl | (simp [errW_none, errW_some] <;> rfl) | (simp [*, errW_none, errW_some] <;> rfl), by repeat (first | (with_reducible first | exact HB.out | apply below_alloc | apply pw_below_drewN | apply below_drew1) | exact HB.out)⟩
            · rw [if_neg c8] at H
              exact absurd H (by simp)
          · rw [if_neg c7] at H
            exact absurd H (by simp)
        · rw [if_neg c6] at H
          have c6b0 : decide (x21_1 < (l2.length : Int)) = false := decide_eq_false c6
          clear c6
          obtain rfl := Option.some.inj H
          go_wp2
          go_ret
          exact ⟨by first | rfl | (simp [errW_none, errW_some] <;> rfl) | (simp [*, errW_none, errW_some] <;> rfl), by repeat (first | (with_reducible first | exact HB.out | apply below_alloc | apply pw_below_drewN | apply below_drew1) | exact HB.out)⟩
end Go.Proofs.Yteeghncofacmhaa.Q
end
section
namespace Go.Proofs.Yteeghncofacmhaa.Q
open Go.RowKit Go.Proofs.YteeghncofacmhaaW.PrintWords Go.Proofs.YteeghncofacmhaaW.PrintLast Go.Proofs.YteeghncofacmhaaW.PrintMore
attribute [local go_sem] max2_int min2_int max_two min_two max_three min_three max_four min_four   -- for this text's walks alone
set_option linter.unusedVariables false
set_option linter.unusedSimpArgs false
/-! ### spec_RegionOfArc: function 19 -/
def spec_RegionOfArc.j0 : Nat → Int → List (S64) → Int → Bool → Option (Int × Bool)
  | 0, _, _, _, _ => none
  | k + 1, x0, x1, x2, x18 => if x18 = true then (some (0, false)) else ((spec_reList.f x0 x1).bind fun t103 => ((spec_reArc.f k x0 x1 t103 x2).bind fun t106 => (some (t106, true))))
def spec_RegionOfArc.f (k : Nat) (a0 : Int) (l1 : List (S64)) (a2 : Int) : Option (Int × Bool) := (spec_rePlane.f k a0 l1).bind fun t101 => (if t101 = true then ((spec_l1In.f a2 0 (wrap64 (a0 - 1))).bind fun t102 => (spec_RegionOfArc.j0 k a0 l1 a2 (!t102))) else (spec_RegionOfArc.j0 k a0 l1 a2 true))
set_option maxHeartbeats 8000000 in
set_option maxRecDepth 100000 in
theorem spec_RegionOfArc.calls (k : Nat) (a0 : Int) (A1 : Option Addr) (c1 : Nat) (l1 : List (S64)) (a2 : Int) (r1 : Int) (r2 : Bool) (w : World) (hr1 : Kd.C k64 w A1 l1.length l1) (hc1 : l1.length ≤ c1) (h : spec_RegionOfArc.f k a0 l1 a2 = some (r1, r2)) :
    Calls Try.prog 19 #[.int .i64 a0, .slice A1 l1.length c1, .int .i64 a2] w fun e w' => e = .returned (.tuple #[.int .i64 r1, .bool r2]) ∧ Below w.heap.size w w' := by
  have HR1 := Aside0.mk hr1
  have HC1 := Aside0.mk hc1
  clear hr1 hc1
  have HB := Aside0.mk (Below.refl w.heap.size w)
  have H : ((spec_rePlane.f k a0 l1).bind fun t101 => (if t101 = true then ((spec_l1In.f a2 0 (wrap64 (a0 - 1))).bind fun t102 => (spec_RegionOfArc.j0 k a0 l1 a2 (!t102))) else (spec_RegionOfArc.j0 k a0 l1 a2 true))) = some (r1, r2) := h
  clear h
  have HC4 := Aside0.mk H
  clear H
  go_enter Try.func19, Try.ntmps19
  go_upto_region 1 with (fail)
  go_cut [18] (fun v18 wc => ∃ (kq : Nat) (x18_3 : Bool), v18 = .bool x18_3 ∧ Aside0 (spec_RegionOfArc.j0 kq a0 l1 a2 x18_3 = some (r1, r2)) ∧ Aside0 (kq ≤ k) ∧ Aside0 (Below w.heap.size w wc))
  case first =>
    have H := HC4.out
    clear HC4
    replace H := Option.bind_eq_some_iff.mp H
    obtain ⟨t101, A50, H⟩ := H
    replace H : (if t101 = true then ((spec_l1In.f a2 0 (wrap64 (a0 - 1))).bind fun t102 => (spec_RegionOfArc.j0 k a0 l1 a2 (!t102))) else (spec_RegionOfArc.j0 k a0 l1 a2 true)) = some (r1, r2) := H
    have A5 := Aside0.mk A50
    clear A50
    by_cases c6 : t101 = true
    · subst c6
      have H1 : ((spec_l1In.f a2 0 (wrap64 (a0 - 1))).bind fun t102 => (spec_RegionOfArc.j0 k a0 l1 a2 (!t102))) = some (r1, r2) := by rw [if_pos rfl] at H; exact H
      clear H
      have H := H1
      clear H1
      replace H := Option.bind_eq_some_iff.mp H
      obtain ⟨t102, A70, H⟩ := H
      replace H : (spec_RegionOfArc.j0 k a0 l1 a2 (!t102)) = some (r1, r2) := H
      have A7 := Aside0.mk A70
      clear A70
      have H' := Aside0.mk H
      clear H
      go_wp2_with (first | ((with_reducible refine gate_callee (f := 56) rfl ?_); refine goesL_ (some 10) rfl rfl Try.func56 (by kernel_rfl) rfl #[.int .i64 a0, .slice A1 l1.length c1] rfl (by (try simp only [List.map_toArray, List.map_cons, List.map_nil]); first | done | rfl | (simp only [List.length_drop, List.length_take]; rfl)) ?_; (with_reducible refine (spec_rePlane.calls k a0 _ _ l1 true _ ?side1 ?side2 A5.out).mono ?_); (case side1 => repeat (first | exact (Kd.C_below HR1.out HB.out) | (with_reducible refine Kd.C_alloc ?_ _) | (with_reducible refine Kd.C_drewN ?_ _) | (with_reducible refine Kd.C_drew ?_))); (case side2 => exact HC1.out); rintro e w8 ⟨rfl, hb⟩; refine ⟨_, rfl, ?_⟩; have n0_ := Aside0.mk (below_step (by repeat (first | (with_reducible first | exact HB.out | apply below_alloc | apply pw_below_drewN | apply below_drew1) | exact HB.out)) hb); clear HB; have HB := n0_; clear n0_; (try clear hb); (try clear hb2); (try clear hk); (try clear hi)) | (go_at_call 61; (with_reducible refine (spec_l1In.calls a2 0 (wrap64 (a0 - 1)) t102 _ A7.out).mono ?_); rintro e w' ⟨rfl, ⟨nd, rfl⟩⟩))
      go_meet
      case rel => exact ⟨_, (!t102), (by first | rfl | (simp; done) | (simp [*]; done)), H', ⟨by first | omega | exact Nat.le_refl _⟩, ⟨by repeat (first | (with_reducible first | exact HB.out | apply below_alloc | apply pw_below_drewN | apply below_drew1) | exact HB.out)⟩⟩
    · replace c6 := Bool.eq_false_iff.mpr c6
      subst c6
      have H1 : (spec_RegionOfArc.j0 k a0 l1 a2 true) = some (r1, r2) := by rw [if_neg (show ¬ (false = true) by decide)] at H; exact H
      clear H
      have H := H1
      clear H1
      have H' := Aside0.mk H
      clear H
      go_wp2_with (first | ((with_reducible refine gate_callee (f := 56) rfl ?_); refine goesL_ (some 10) rfl rfl Try.func56 (by kernel_rfl) rfl #[.int .i64 a0, .slice A1 l1.length c1] rfl (by (try simp only [List.map_toArray, List.map_cons, List.map_nil]); first | done | rfl | (simp only [List.length_drop, List.length_take]; rfl)) ?_; (with_reducible refine (spec_rePlane.calls k a0 _ _ l1 false _ ?side1 ?side2 A5.out).mono ?_); (case side1 => repeat (first | exact (Kd.C_below HR1.out HB.out) | (with_reducible refine Kd.C_alloc ?_ _) | (with_reducible refine Kd.C_drewN ?_ _) | (with_reducible refine Kd.C_drew ?_))); (case side2 => exact HC1.out); rintro e w9 ⟨rfl, hb⟩; refine ⟨_, rfl, ?_⟩; have n0_ := Aside0.mk (below_step (by repeat (first | (with_reducible first | exact HB.out | apply below_alloc | apply pw_below_drewN | apply below_drew1) | exact HB.out)) hb); clear HB; have HB := n0_; clear n0_; (try clear hb); (try clear hb2); (try clear hk); (try clear hi)))
      go_meet
      case rel => exact ⟨_, (true), (by first | rfl | (simp; done) | (simp [*]; done)), H', ⟨by first | omega | exact Nat.le_refl _⟩, ⟨by repeat (first | (with_reducible first | exact HB.out | apply below_alloc | apply pw_below_drewN | apply below_drew1) | exact HB.out)⟩⟩
  case rest =>
    clear HC4
    try clear c1
    try clear p2
    try clear c5
    try clear c6
    try clear p6
    obtain ⟨kq, x18_3, rfl, HA, HJ3, HB⟩ := hcut
    cases kq with
    | zero => exact absurd HA.out (by simp [spec_RegionOfArc.j0])
    | succ kj3 =>
      have H := HA.out
      clear HA
      simp only [spec_RegionOfArc.j0] at H
      by_cases c10 : x18_3 = true
      · subst c10
        have H1 : (some (0, false)) = some (r1, r2) := by rw [if_pos rfl] at H; exact H
        clear H
        have H := H1
        clear H1
        simp only [Option.some.injEq, Prod.mk.injEq] at H
        obtain ⟨rfl, rfl⟩ := H
        go_wp2
        go_ret2
        exact ⟨by first | rfl | (simp [errW_none, errW_some] <;> rfl) | (simp [*, errW_none, errW_some] <;> rfl), by repeat (first | (with_reducible first | exact HB.out | apply below_alloc | apply pw_below_drewN | apply below_drew1) | exact HB.out)⟩
      · replace c10 := Bool.eq_false_iff.mpr c10
        subst c10
        have H1 : ((spec_reList.f a0 l1).bind fun t103 => ((spec_reArc.f kj3 a0 l1 t103 a2).bind fun t106 => (some (t106, true)))) = some (r1, r2) := by rw [if_neg (show ¬ (false = true) by decide)] at H; exact H
        clear H
        have H := H1
        clear H1
        replace H := Option.bind_eq_some_iff.mp H
        obtain ⟨t103, A110, H⟩ := H
        replace H : ((spec_reArc.f kj3 a0 l1 t103 a2).bind fun t106 => (some (t106, true))) = some (r1, r2) := H
        have A11 := Aside0.mk A110
        clear A110
        replace H := Option.bind_eq_some_iff.mp H
        obtain ⟨t106, A120, H⟩ := H
        replace H : (some (t106, true)) = some (r1, r2) := H
        have A12 := Aside0.mk A120
        clear A120
        simp only [Option.some.injEq, Prod.mk.injEq] at H
        obtain ⟨rfl, rfl⟩ := H
        go_wp2_with (first | ((with_reducible refine gate_callee (f := 57) rfl ?_); refine goesL_ (some 23) rfl rfl Try.func57 (by kernel_rfl) rfl #[.int .i64 a0, .slice A1 l1.length c1] rfl (by (try simp only [List.map_toArray, List.map_cons, List.map_nil]); first | done | rfl | (simp only [List.length_drop, List.length_take]; rfl)) ?_; (with_reducible refine (spec_reList.calls a0 _ _ l1 t103 _ ?side1 ?side2 A11.out).mono ?_); (case side1 => repeat (first | exact (Kd.C_below HR1.out HB.out) | (with_reducible refine Kd.C_alloc ?_ _) | (with_reducible refine Kd.C_drewN ?_ _) | (with_reducible refine Kd.C_drew ?_))); (case side2 => exact HC1.out); rintro e w13 ⟨v104, rfl, ho0, hb⟩; refine ⟨_, rfl, ?_⟩; have n0_ := Aside0.mk (Kd.S_lower ho0 (below_size (by repeat (first | (with_reducible first | exact HB.out | apply below_alloc | apply pw_below_drewN | apply below_drew1) | exact HB.out)))); have n1_ := Aside0.mk (below_step (by repeat (first | (with_reducible first | exact HB.out | apply below_alloc | apply pw_below_drewN | apply below_drew1) | exact HB.out)) hb); clear HB; have HO105 := n0_; have HB := n1_; clear n0_ n1_; (try clear hb); (try clear hb2); (try clear hk); (try clear hi); (try clear ho0); obtain ⟨Ao14, co14, eo14⟩ := Kd.S_slice HO105.out; subst eo14) | ((with_reducible refine gate_callee (f := 62) rfl ?_); refine goesL_ (some 25) rfl rfl Try.func62 (by kernel_rfl) rfl #[.int .i64 a0, .slice A1 l1.length c1, .slice Ao14 t103.length co14, .int .i64 a2] rfl (by (try simp only [List.map_toArray, List.map_cons, List.map_nil]); first | done | rfl | (simp only [List.length_drop, List.length_take]; rfl)) ?_; (with_reducible refine (spec_reArc.calls kj3 a0 _ _ l1 _ _ t103 a2 t106 _ ?side1 ?side2 ?side3 ?side4 A12.out).mono ?_); (case side1 => repeat (first | exact (Kd.C_below HR1.out HB.out) | (with_reducible refine Kd.C_alloc ?_ _) | (with_reducible refine Kd.C_drewN ?_ _) | (with_reducible refine Kd.C_drew ?_))); (case side2 => exact HC1.out); (case side3 => repeat (first | exact (Kd.S_reads' HO105.out).2.2 | (with_reducible refine Kd.C_alloc ?_ _) | (with_reducible refine Kd.C_drewN ?_ _) | (with_reducible refine Kd.C_drew ?_))); (case side4 => exact (Kd.S_reads' HO105.out).2.1); rintro e w15 ⟨rfl, hb⟩; refine ⟨_, rfl, ?_⟩; have n0_ := Aside0.mk (Kd.S_below (by (with_reducible repeat (first | apply Kd.S_alloc | apply Kd.S_drewN | apply Kd.S_drew)); exact HO105.out) hb); have n1_ := Aside0.mk (below_step (by repeat (first | (with_reducible first | exact HB.out | apply below_alloc | apply pw_below_drewN | apply below_drew1) | exact HB.out)) hb); clear HO105; clear HB; have HO105 := n0_; have HB := n1_; clear n0_ n1_; (try clear hb); (try clear hb2); (try clear hk); (try clear hi)))
        go_ret2
        exact ⟨by first | rfl | (simp [errW_none, errW_some] <;> rfl) | (simp [*, errW_none, errW_some] <;> rfl), by repeat (first | (with_reducible first | exact HB.out | apply below_alloc | apply pw_below_drewN | apply below_drew1) | exact HB.out)⟩
end Go.Proofs.Yteeghncofacmhaa.Q
end
section
namespace Go.Proofs.Yteeghncofacmhaa.Q
open Go.RowKit Go.Proofs.YteeghncofacmhaaW.PrintWords Go.Proofs.YteeghncofacmhaaW.PrintLast Go.Proofs.YteeghncofacmhaaW.PrintMore
attribute [local go_sem] max2_int min2_int max_two min_two max_three min_three max_four min_four   -- for this text's walks alone
set_option linter.unusedVariables false
set_option linter.unusedSimpArgs false
/-! ### laws_FnExactRegionOfArc: function 4 -/
def laws_FnExactRegionOfArc.j0 : Nat → List (S66) → List (S64) → Bool → Option (Bool)
  | 0, _, _, _ => none
  | k + 1, x1, x10, x42 => if x42 = true then (some false) else ((laws_toChordS.f k x1).bind fun t112 => ((laws_eqChordS.f k x10 t112).bind fun t115 => (if t115 = true then (some true) else (some false))))
def laws_FnExactRegionOfArc.f (k : Nat) (a0 : Int) (l1 : List (S66)) (a2 : Int) : Option (Bool) := (laws_szChordS.f l1 1048576).bind fun t101 => (if t101 < 0 then (some true) else ((laws_toChordS.f k l1).bind fun t102 => ((spec_RegionOfArc.f k a0 t102 a2).bind fun bt105 => ((laws_toChordS.f k l1).bind fun t107 => ((impl_RegionOfArc.f a0 t107 a2).bind fun bt110 => (if bt110.1 = bt105.1 then (laws_FnExactRegionOfArc.j0 k l1 t107 (bt110.2 != bt105.2)) else (laws_FnExactRegionOfArc.j0 k l1 t107 true)))))))
set_option maxHeartbeats 8000000 in
set_option maxRecDepth 100000 in
theorem laws_FnExactRegionOfArc.calls (k : Nat) (a0 : Int) (A1 : Option Addr) (c1 : Nat) (l1 : List (S66)) (a2 : Int) (r : Bool) (w : World) (hr1 : Kd.C k66 w A1 l1.length l1) (hc1 : l1.length ≤ c1) (h : laws_FnExactRegionOfArc.f k a0 l1 a2 = some r) :
    Calls Try.prog 4 #[.int .i64 a0, .slice A1 l1.length c1, .int .i64 a2] w fun e w' => e = .returned (.bool r) ∧ Below w.heap.size w w' := by
  have HR1 := Aside0.mk hr1
  have HC1 := Aside0.mk hc1
  clear hr1 hc1
  have HB := Aside0.mk (Below.refl w.heap.size w)
  have H : ((laws_szChordS.f l1 1048576).bind fun t101 => (if t101 < 0 then (some true) else ((laws_toChordS.f k l1).bind fun t102 => ((spec_RegionOfArc.f k a0 t102 a2).bind fun bt105 => ((laws_toChordS.f k l1).bind fun t107 => ((impl_RegionOfArc.f a0 t107 a2).bind fun bt110 => (if bt110.1 = bt105.1 then (laws_FnExactRegionOfArc.j0 k l1 t107 (bt110.2 != bt105.2)) else (laws_FnExactRegionOfArc.j0 k l1 t107 true)))))))) = some r := h
  clear h
  replace H := Option.bind_eq_some_iff.mp H
  obtain ⟨t101, A40, H⟩ := H
  replace H : (if t101 < 0 then (some true) else ((laws_toChordS.f k l1).bind fun t102 => ((spec_RegionOfArc.f k a0 t102 a2).bind fun bt105 => ((laws_toChordS.f k l1).bind fun t107 => ((impl_RegionOfArc.f a0 t107 a2).bind fun bt110 => (if bt110.1 = bt105.1 then (laws_FnExactRegionOfArc.j0 k l1 t107 (bt110.2 != bt105.2)) else (laws_FnExactRegionOfArc.j0 k l1 t107 true))))))) = some r := H
  have A4 := Aside0.mk A40
  clear A40
  by_cases c5 : t101 < 0
  · rw [if_pos c5] at H
    have c5b0 : decide (t101 < 0) = true := decide_eq_true c5
    clear c5
    obtain rfl := Option.some.inj H
    go_enter Try.func4, Try.ntmps4
    go_wp2_with (first | ((with_reducible refine gate_callee (f := 10) rfl ?_); refine goesL_ (some 15) rfl rfl Try.func10 (by kernel_rfl) rfl #[.slice A1 l1.length c1, .int .i64 1048576] rfl (by (try simp only [List.map_toArray, List.map_cons, List.map_nil]); first | done | rfl | (simp only [List.length_drop, List.length_take]; rfl)) ?_; (with_reducible refine (laws_szChordS.calls _ _ l1 1048576 t101 _ ?side1 ?side2 A4.out).mono ?_); (case side1 => repeat (first | exact HR1.out | (with_reducible refine Kd.C_alloc ?_ _) | (with_reducible refine Kd.C_drewN ?_ _) | (with_reducible refine Kd.C_drew ?_))); (case side2 => exact HC1.out); rintro e w' ⟨rfl, ⟨nd, rfl⟩⟩; refine ⟨_, rfl, ?_⟩))
    go_ret
    exact ⟨by first | rfl | (simp [errW_none, errW_some] <;> rfl) | (simp [*, errW_none, errW_some] <;> rfl), by repeat (first | (with_reducible first | exact HB.out | apply below_alloc | apply pw_below_drewN | apply below_drew1) | exact HB.out)⟩
  · rw [if_neg c5] at H
    have c5b0 : decide (t101 < 0) = false := decide_eq_false c5
    clear c5
    replace H := Option.bind_eq_some_iff.mp H
    obtain ⟨t102, A60, H⟩ := H
    replace H : ((spec_RegionOfArc.f k a0 t102 a2).bind fun bt105 => ((laws_toChordS.f k l1).bind fun t107 => ((impl_RegionOfArc.f a0 t107 a2).bind fun bt110 => (if bt110.1 = bt105.1 then (laws_FnExactRegionOfArc.j0 k l1 t107 (bt110.2 != bt105.2)) else (laws_FnExactRegionOfArc.j0 k l1 t107 true))))) = some r := H
    have A6 := Aside0.mk A60
    clear A60
    replace H := Option.bind_eq_some_iff.mp H
    obtain ⟨⟨t105, t106⟩, A70, H⟩ := H
    replace H : ((laws_toChordS.f k l1).bind fun t107 => ((impl_RegionOfArc.f a0 t107 a2).bind fun bt110 => (if bt110.1 = t105 then (laws_FnExactRegionOfArc.j0 k l1 t107 (bt110.2 != t106)) else (laws_FnExactRegionOfArc.j0 k l1 t107 true)))) = some r := H
    have A7 := Aside0.mk A70
    clear A70
    replace H := Option.bind_eq_some_iff.mp H
    obtain ⟨t107, A80, H⟩ := H
    replace H : ((impl_RegionOfArc.f a0 t107 a2).bind fun bt110 => (if bt110.1 = t105 then (laws_FnExactRegionOfArc.j0 k l1 t107 (bt110.2 != t106)) else (laws_FnExactRegionOfArc.j0 k l1 t107 true))) = some r := H
    have A8 := Aside0.mk A80
    clear A80
    replace H := Option.bind_eq_some_iff.mp H
    obtain ⟨⟨t110, t111⟩, A90, H⟩ := H
    replace H : (if t110 = t105 then (laws_FnExactRegionOfArc.j0 k l1 t107 (t111 != t106)) else (laws_FnExactRegionOfArc.j0 k l1 t107 true)) = some r := H
    have A9 := Aside0.mk A90
    clear A90
    have HC10 := Aside0.mk H
    clear H
    go_enter Try.func4, Try.ntmps4
    go_upto_region 8 with (first | ((with_reducible refine gate_callee (f := 10) rfl ?_); refine goesL_ (some 15) rfl rfl Try.func10 (by kernel_rfl) rfl #[.slice A1 l1.length c1, .int .i64 1048576] rfl (by (try simp only [List.map_toArray, List.map_cons, List.map_nil]); first | done | rfl | (simp only [List.length_drop, List.length_take]; rfl)) ?_; (with_reducible refine (laws_szChordS.calls _ _ l1 1048576 t101 _ ?side1 ?side2 A4.out).mono ?_); (case side1 => repeat (first | exact HR1.out | (with_reducible refine Kd.C_alloc ?_ _) | (with_reducible refine Kd.C_drewN ?_ _) | (with_reducible refine Kd.C_drew ?_))); (case side2 => exact HC1.out); rintro e w' ⟨rfl, ⟨nd, rfl⟩⟩; refine ⟨_, rfl, ?_⟩) | ((with_reducible refine gate_callee (f := 12) rfl ?_); refine goesL_ (some 21) rfl rfl Try.func12 (by kernel_rfl) rfl #[.slice A1 l1.length c1] rfl (by (try simp only [List.map_toArray, List.map_cons, List.map_nil]); first | done | rfl | (simp only [List.length_drop, List.length_take]; rfl)) ?_; (with_reducible refine (laws_toChordS.calls k _ _ l1 t102 _ ?side1 ?side2 A6.out).mono ?_); (case side1 => repeat (first | exact HR1.out | (with_reducible refine Kd.C_alloc ?_ _) | (with_reducible refine Kd.C_drewN ?_ _) | (with_reducible refine Kd.C_drew ?_))); (case side2 => exact HC1.out); rintro e w11 ⟨v103, rfl, ho0, hb⟩; refine ⟨_, rfl, ?_⟩; have n0_ := Aside0.mk (Kd.R_lower ho0 (below_size (by repeat (first | (with_reducible first | exact HB.out | apply below_alloc | apply pw_below_drewN | apply below_drew1) | exact HB.out)))); have n1_ := Aside0.mk (below_step (by repeat (first | (with_reducible first | exact HB.out | apply below_alloc | apply pw_below_drewN | apply below_drew1) | exact HB.out)) hb); clear HB; have HO104 := n0_; have HB := n1_; clear n0_ n1_; (try clear hb); (try clear hb2); (try clear hk); (try clear hi); (try clear ho0); obtain ⟨Ao12, co12, eo12⟩ := Kd.R_slice HO104.out; subst eo12) | ((with_reducible refine gate_callee (f := 19) rfl ?_); refine goesL_ (some 23) rfl rfl Try.func19 (by kernel_rfl) rfl #[.int .i64 a0, .slice Ao12 t102.length co12, .int .i64 a2] rfl (by (try simp only [List.map_toArray, List.map_cons, List.map_nil]); first | done | rfl | (simp only [List.length_drop, List.length_take]; rfl)) ?_; (with_reducible refine (spec_RegionOfArc.calls k a0 _ _ t102 a2 t105 t106 _ ?side1 ?side2 A7.out).mono ?_); (case side1 => repeat (first | exact (Kd.R_reads' HO104.out).2.2 | (with_reducible refine Kd.C_alloc ?_ _) | (with_reducible refine Kd.C_drewN ?_ _) | (with_reducible refine Kd.C_drew ?_))); (case side2 => exact (Kd.R_reads' HO104.out).2.1); rintro e w13 ⟨rfl, hb⟩; refine ⟨_, rfl, ?_⟩; have n0_ := Aside0.mk (Kd.R_below (by (with_reducible repeat (first | apply Kd.R_alloc | apply Kd.R_drewN | apply Kd.R_drew)); exact HO104.out) hb); have n1_ := Aside0.mk (below_step (by repeat (first | (with_reducible first | exact HB.out | apply below_alloc | apply pw_below_drewN | apply below_drew1) | exact HB.out)) hb); clear HO104; clear HB; have HO104 := n0_; have HB := n1_; clear n0_ n1_; (try clear hb); (try clear hb2); (try clear hk); (try clear hi)) | ((with_reducible refine gate_callee (f := 12) rfl ?_); refine goesL_ (some 27) rfl rfl Try.func12 (by kernel_rfl) rfl #[.slice A1 l1.length c1] rfl (by (try simp only [List.map_toArray, List.map_cons, List.map_nil]); first | done | rfl | (simp only [List.length_drop, List.length_take]; rfl)) ?_; (with_reducible refine (laws_toChordS.calls k _ _ l1 t107 _ ?side1 ?side2 A8.out).mono ?_); (case side1 => repeat (first | exact (Kd.C_below HR1.out HB.out) | (with_reducible refine Kd.C_alloc ?_ _) | (with_reducible refine Kd.C_drewN ?_ _) | (with_reducible refine Kd.C_drew ?_))); (case side2 => exact HC1.out); rintro e w14 ⟨v108, rfl, ho0, hb⟩; refine ⟨_, rfl, ?_⟩; have n0_ := Aside0.mk (Kd.R_elder' (by (with_reducible repeat (first | apply Kd.R_alloc | apply Kd.R_drewN | apply Kd.R_drew)); exact HO104.out) (Kd.R_base ho0) hb); have n1_ := Aside0.mk (Kd.R_lower (Kd.R_new' ho0 (Kd.R_lt (by (with_reducible repeat (first | apply Kd.R_alloc | apply Kd.R_drewN | apply Kd.R_drew)); exact HO104.out))) (below_size (by repeat (first | (with_reducible first | exact HB.out | apply below_alloc | apply pw_below_drewN | apply below_drew1) | exact HB.out)))); have n2_ := Aside0.mk (below_step (by repeat (first | (with_reducible first | exact HB.out | apply below_alloc | apply pw_below_drewN | apply below_drew1) | exact HB.out)) hb); clear HO104; clear HB; have HO104 := n0_; have HO109 := n1_; have HB := n2_; clear n0_ n1_ n2_; (try clear hb); (try clear hb2); (try clear hk); (try clear hi); (try clear ho0); obtain ⟨Ao15, co15, eo15⟩ := Kd.R_slice HO109.out; subst eo15) | ((with_reducible refine gate_callee (f := 20) rfl ?_); refine goesL_ (some 32) rfl rfl Try.func20 (by kernel_rfl) rfl #[.int .i64 a0, .slice Ao15 t107.length co15, .int .i64 a2] rfl (by (try simp only [List.map_toArray, List.map_cons, List.map_nil]); first | done | rfl | (simp only [List.length_drop, List.length_take]; rfl)) ?_; (with_reducible refine (impl_RegionOfArc.calls a0 _ _ t107 a2 t110 t111 _ ?side1 ?side2 A9.out).mono ?_); (case side1 => repeat (first | exact (Kd.R_reads' HO109.out).2.2 | (with_reducible refine Kd.C_alloc ?_ _) | (with_reducible refine Kd.C_drewN ?_ _) | (with_reducible refine Kd.C_drew ?_))); (case side2 => exact (Kd.R_reads' HO109.out).2.1); rintro e w16 ⟨rfl, hb⟩; refine ⟨_, rfl, ?_⟩; have n0_ := Aside0.mk (Kd.R_below (by (with_reducible repeat (first | apply Kd.R_alloc | apply Kd.R_drewN | apply Kd.R_drew)); exact HO104.out) hb); have n1_ := Aside0.mk (Kd.R_below (by (with_reducible repeat (first | apply Kd.R_alloc | apply Kd.R_drewN | apply Kd.R_drew)); exact HO109.out) hb); have n2_ := Aside0.mk (below_step (by repeat (first | (with_reducible first | exact HB.out | apply below_alloc | apply pw_below_drewN | apply below_drew1) | exact HB.out)) hb); clear HO104; clear HO109; clear HB; have HO104 := n0_; have HO109 := n1_; have HB := n2_; clear n0_ n1_ n2_; (try clear hb); (try clear hb2); (try clear hk); (try clear hi)))
    (try simp only [Act.put, List.setIfInBounds_toArray, List.set_cons_zero, List.set_cons_succ])
    go_cut [42] (fun v42 wc => ∃ (kq : Nat) (x42_9 : Bool), v42 = .bool x42_9 ∧ Aside0 (laws_FnExactRegionOfArc.j0 kq l1 t107 x42_9 = some r) ∧ Aside0 (kq ≤ k) ∧ Aside0 (Kd.R k64 64 wc w.heap.size (fun _ => True) (.slice Ao15 t107.length co15) t107) ∧ Aside0 (Below w.heap.size w wc))
    case first =>
      have H := HC10.out
      clear HC10
      by_cases c17 : t110 = t105
      · rw [if_pos c17] at H
        have c17b0 : (t110 == t105) = true := beq_iff_eq.mpr c17
        have c17b1 : (t110 != t105) = false := bne_eq_false_iff_eq.mpr c17
        clear c17
        (first | rw [c17b0] | (simp only [i64_w, i32_w]; rw [c17b0]) | skip)
        have H' := Aside0.mk H
        clear H
        go_wp2
        go_meet
        case rel => exact ⟨_, ((t111 != t106)), (by first | rfl | (simp; done) | (simp [*]; done)), H', ⟨by first | omega | exact Nat.le_refl _⟩, ⟨by (with_reducible repeat (first | apply Kd.R_alloc | apply Kd.R_drewN | apply Kd.R_drew)); exact Kd.R_mono HO109.out (fun _ hk => trivial)⟩, ⟨by repeat (first | (with_reducible first | exact HB.out | apply below_alloc | apply pw_below_drewN | apply below_drew1) | exact HB.out)⟩⟩
      · rw [if_neg c17] at H
        have c17b0 : (t110 == t105) = false := beq_eq_false_iff_ne.mpr c17
        have c17b1 : (t110 != t105) = true := bne_iff_ne.mpr c17
        (first | rw [c17b0] | (simp only [i64_w, i32_w]; rw [c17b0]) | skip)
        have H' := Aside0.mk H
        clear H
        go_wp2
        go_meet
        case rel => exact ⟨_, (true), (by first | rfl | (simp; done) | (simp [*]; done)), H', ⟨by first | omega | exact Nat.le_refl _⟩, ⟨by (with_reducible repeat (first | apply Kd.R_alloc | apply Kd.R_drewN | apply Kd.R_drew)); exact Kd.R_mono HO109.out (fun _ hk => trivial)⟩, ⟨by repeat (first | (with_reducible first | exact HB.out | apply below_alloc | apply pw_below_drewN | apply below_drew1) | exact HB.out)⟩⟩
    case rest =>
      clear HC10
      try clear c1
      try clear c2
      try clear p2
      try clear c4
      try clear c5
      try clear c5b0
      try clear c10
      try clear c12
      try clear c17
      try clear c17b0
      try clear c17b1
      obtain ⟨kq, x42_9, rfl, HA, HJ9, HO_10, HB⟩ := hcut
      cases kq with
      | zero => exact absurd HA.out (by simp [laws_FnExactRegionOfArc.j0])
      | succ kj9 =>
        have H := HA.out
        clear HA
        simp only [laws_FnExactRegionOfArc.j0] at H
        by_cases c18 : x42_9 = true
        · subst c18
          have H1 : (some false) = some r := by rw [if_pos rfl] at H; exact H
          clear H
          have H := H1
          clear H1
          obtain rfl := Option.some.inj H
          go_wp2
          go_ret
          exact ⟨by first | rfl | (simp [errW_none, errW_some] <;> rfl) | (simp [*, errW_none, errW_some] <;> rfl), by repeat (first | (with_reducible first | exact HB.out | apply below_alloc | apply pw_below_drewN | apply below_drew1) | exact HB.out)⟩
        · replace c18 := Bool.eq_false_iff.mpr c18
          subst c18
          have H1 : ((laws_toChordS.f kj9 l1).bind fun t112 => ((laws_eqChordS.f kj9 t107 t112).bind fun t115 => (if t115 = true then (some true) else (some false)))) = some r := by rw [if_neg (show ¬ (false = true) by decide)] at H; exact H
          clear H
          have H := H1
          clear H1
          replace H := Option.bind_eq_some_iff.mp H
          obtain ⟨t112, A190, H⟩ := H
          replace H : ((laws_eqChordS.f kj9 t107 t112).bind fun t115 => (if t115 = true then (some true) else (some false))) = some r := H
          have A19 := Aside0.mk A190
          clear A190
          replace H := Option.bind_eq_some_iff.mp H
          obtain ⟨t115, A200, H⟩ := H
          replace H : (if t115 = true then (some true) else (some false)) = some r := H
          have A20 := Aside0.mk A200
          clear A200
          by_cases c21 : t115 = true
          · subst c21
            have H1 : (some true) = some r := by rw [if_pos rfl] at H; exact H
            clear H
            have H := H1
            clear H1
            obtain rfl := Option.some.inj H
            go_wp2_with (first | ((with_reducible refine gate_callee (f := 12) rfl ?_); refine goesL_ (some 45) rfl rfl Try.func12 (by kernel_rfl) rfl #[.slice A1 l1.length c1] rfl (by (try simp only [List.map_toArray, List.map_cons, List.map_nil]); first | done | rfl | (simp only [List.length_drop, List.length_take]; rfl)) ?_; (with_reducible refine (laws_toChordS.calls kj9 _ _ l1 t112 _ ?side1 ?side2 A19.out).mono ?_); (case side1 => repeat (first | exact (Kd.C_below HR1.out HB.out) | (with_reducible refine Kd.C_alloc ?_ _) | (with_reducible refine Kd.C_drewN ?_ _) | (with_reducible refine Kd.C_drew ?_))); (case side2 => exact HC1.out); rintro e w22 ⟨v113, rfl, ho0, hb⟩; refine ⟨_, rfl, ?_⟩; have n0_ := Aside0.mk (Kd.R_elder' (by (with_reducible repeat (first | apply Kd.R_alloc | apply Kd.R_drewN | apply Kd.R_drew)); exact HO_10.out) (Kd.R_base ho0) hb); have n1_ := Aside0.mk (Kd.R_lower (Kd.R_new' ho0 (Kd.R_lt (by (with_reducible repeat (first | apply Kd.R_alloc | apply Kd.R_drewN | apply Kd.R_drew)); exact HO_10.out))) (below_size (by repeat (first | (with_reducible first | exact HB.out | apply below_alloc | apply pw_below_drewN | apply below_drew1) | exact HB.out)))); have n2_ := Aside0.mk (below_step (by repeat (first | (with_reducible first | exact HB.out | apply below_alloc | apply pw_below_drewN | apply below_drew1) | exact HB.out)) hb); clear HO_10; clear HB; have HO_10 := n0_; have HO114 := n1_; have HB := n2_; clear n0_ n1_ n2_; (try clear hb); (try clear hb2); (try clear hk); (try clear hi); (try clear ho0); obtain ⟨Ao23, co23, eo23⟩ := Kd.R_slice HO114.out; subst eo23) | ((with_reducible refine gate_callee (f := 15) rfl ?_); refine goesL_ (some 46) rfl rfl Try.func15 (by kernel_rfl) rfl #[.slice Ao15 t107.length co15, .slice Ao23 t112.length co23] rfl (by (try simp only [List.map_toArray, List.map_cons, List.map_nil]); first | done | rfl | (simp only [List.length_drop, List.length_take]; rfl)) ?_; (with_reducible refine (laws_eqChordS.calls kj9 _ _ t107 _ _ t112 true _ ?side1 ?side2 ?side3 ?side4 A20.out).mono ?_); (case side1 => repeat (first | exact (Kd.R_reads' HO_10.out).2.2 | (with_reducible refine Kd.C_alloc ?_ _) | (with_reducible refine Kd.C_drewN ?_ _) | (with_reducible refine Kd.C_drew ?_))); (case side2 => exact (Kd.R_reads' HO_10.out).2.1); (case side3 => repeat (first | exact (Kd.R_reads' HO114.out).2.2 | (with_reducible refine Kd.C_alloc ?_ _) | (with_reducible refine Kd.C_drewN ?_ _) | (with_reducible refine Kd.C_drew ?_))); (case side4 => exact (Kd.R_reads' HO114.out).2.1); rintro e w24 ⟨rfl, hb⟩; refine ⟨_, rfl, ?_⟩; have n0_ := Aside0.mk (Kd.R_below (by (with_reducible repeat (first | apply Kd.R_alloc | apply Kd.R_drewN | apply Kd.R_drew)); exact HO_10.out) hb); have n1_ := Aside0.mk (Kd.R_below (by (with_reducible repeat (first | apply Kd.R_alloc | apply Kd.R_drewN | apply Kd.R_drew)); exact HO114.out) hb); have n2_ := Aside0.mk (below_step (by repeat (first | (with_reducible first | exact HB.out | apply below_alloc | apply pw_below_drewN | apply below_drew1) | exact HB.out)) hb); clear HO_10; clear HO114; clear HB; have HO_10 := n0_; have HO114 := n1_; have HB := n2_; clear n0_ n1_ n2_; (try clear hb); (try clear hb2); (try clear hk); (try clear hi)))
            go_ret
            exact ⟨by first | rfl | (simp [errW_none, errW_some] <;> rfl) | (simp [*, errW_none, errW_some] <;> rfl), by repeat (first | (with_reducible first | exact HB.out | apply below_alloc | apply pw_below_drewN | apply below_drew1) | exact HB.out)⟩
          · replace c21 := Bool.eq_false_iff.mpr c21
            subst c21
            have H1 : (some false) = some r := by rw [if_neg (show ¬ (false = true) by decide)] at H; exact H
            clear H
            have H := H1
            clear H1
            obtain rfl := Option.some.inj H
            go_wp2_with (first | ((with_reducible refine gate_callee (f := 12) rfl ?_); refine goesL_ (some 45) rfl rfl Try.func12 (by kernel_rfl) rfl #[.slice A1 l1.length c1] rfl (by (try simp only [List.map_toArray, List.map_cons, List.map_nil]); first | done | rfl | (simp only [List.length_drop, List.length_take]; rfl)) ?_; (with_reducible refine (laws_toChordS.calls kj9 _ _ l1 t112 _ ?side1 ?side2 A19.out).mono ?_); (case side1 => repeat (first | exact (Kd.C_below HR1.out HB.out) | (with_reducible refine Kd.C_alloc ?_ _) | (with_reducible refine Kd.C_drewN ?_ _) | (with_reducible refine Kd.C_drew ?_))); (case side2 => exact HC1.out); rintro e w25 ⟨v113, rfl, ho0, hb⟩; refine ⟨_, rfl, ?_⟩; have n0_ := Aside0.mk (Kd.R_elder' (by (with_reducible repeat (first | apply Kd.R_alloc | apply Kd.R_drewN | apply Kd.R_drew)); exact HO_10.out) (Kd.R_base ho0) hb); have n1_ := Aside0.mk (Kd.R_lower (Kd.R_new' ho0 (Kd.R_lt (by (with_reducible repeat (first | apply Kd.R_alloc | apply Kd.R_drewN | apply Kd.R_drew)); exact HO_10.out))) (below_size (by repeat (first | (with_reducible first | exact HB.out | apply below_alloc | apply pw_below_drewN | apply below_drew1) | exact HB.out)))); have n2_ := Aside0.mk (below_step (by repeat (first | (with_reducible first | exact HB.out | apply below_alloc | apply pw_below_drewN | apply below_drew1) | exact HB.out)) hb); clear HO_10; clear HB; have HO_10 := n0_; have HO114 := n1_; have HB := n2_; clear n0_ n1_ n2_; (try clear hb); (try clear hb2); (try clear hk); (try clear hi); (try clear ho0); obtain ⟨Ao26, co26, eo26⟩ := Kd.R_slice HO114.out; subst eo26) | ((with_reducible refine gate_callee (f := 15) rfl ?_); refine goesL_ (some 46) rfl rfl Try.func15 (by kernel_rfl) rfl #[.slice Ao15 t107.length co15, .slice Ao26 t112.length co26] rfl (by (try simp only [List.map_toArray, List.map_cons, List.map_nil]); first | done | rfl | (simp only [List.length_drop, List.length_take]; rfl)) ?_; (with_reducible refine (laws_eqChordS.calls kj9 _ _ t107 _ _ t112 false _ ?side1 ?side2 ?side3 ?side4 A20.out).mono ?_); (case side1 => repeat (first | exact (Kd.R_reads' HO_10.out).2.2 | (with_reducible refine Kd.C_alloc ?_ _) | (with_reducible refine Kd.C_drewN ?_ _) | (with_reducible refine Kd.C_drew ?_))); (case side2 => exact (Kd.R_reads' HO_10.out).2.1); (case side3 => repeat (first | exact (Kd.R_reads' HO114.out).2.2 | (with_reducible refine Kd.C_alloc ?_ _) | (with_reducible refine Kd.C_drewN ?_ _) | (with_reducible refine Kd.C_drew ?_))); (case side4 => exact (Kd.R_reads' HO114.out).2.1); rintro e w27 ⟨rfl, hb⟩; refine ⟨_, rfl, ?_⟩; have n0_ := Aside0.mk (Kd.R_below (by (with_reducible repeat (first | apply Kd.R_alloc | apply Kd.R_drewN | apply Kd.R_drew)); exact HO_10.out) hb); have n1_ := Aside0.mk (Kd.R_below (by (with_reducible repeat (first | apply Kd.R_alloc | apply Kd.R_drewN | apply Kd.R_drew)); exact HO114.out) hb); have n2_ := Aside0.mk (below_step (by repeat (first | (with_reducible first | exact HB.out | apply below_alloc | apply pw_below_drewN | apply below_drew1) | exact HB.out)) hb); clear HO_10; clear HO114; clear HB; have HO_10 := n0_; have HO114 := n1_; have HB := n2_; clear n0_ n1_ n2_; (try clear hb); (try clear hb2); (try clear hk); (try clear hi)))
            go_ret
            exact ⟨by first | rfl | (simp [errW_none, errW_some] <;> rfl) | (simp [*, errW_none, errW_some] <;> rfl), by repeat (first | (with_reducible first | exact HB.out | apply below_alloc | apply pw_below_drewN | apply below_drew1) | exact HB.out)⟩
end Go.Proofs.Yteeghncofacmhaa.Q
end
section
/- RegionOfArc: both sides tell the same region; the law is true. -/
namespace Go.Proofs.Yteeghncofacmhaa.Q
open Go.RowKit Go.Proofs.YteeghncofacmhaaW.PrintWords Go.Proofs.YteeghncofacmhaaW.PrintLast Go.Proofs.YteeghncofacmhaaW.PrintMore
set_option linter.unusedVariables false
set_option linter.unusedSimpArgs false
theorem three_le {l : List Int} {a b c : Int} (ha : a ∈ l) (hb : b ∈ l) (hc : c ∈ l) (h1 : a < b) (h2 : b < c) : 3 ≤ l.length := by
  rcases l with _ | ⟨x, _ | ⟨y, _ | ⟨z, t⟩⟩⟩
  · simp at ha
  · simp at ha hb; omega
  · simp at ha hb hc; omega
  · simp
theorem len_two {l : List Int} (hs : l.Pairwise (· < ·)) {a b : Int} (hab : a < b) (ha : a ∈ l) (hb : b ∈ l) (hall : ∀ x ∈ l, x = a ∨ x = b) : l.length = 2 := by
  rcases l with _ | ⟨x, _ | ⟨y, _ | ⟨z, t⟩⟩⟩
  · simp at ha
  · simp at ha hb; omega
  · rfl
  · have hx := hall x (by simp)
    have hy := hall y (by simp)
    have hz := hall z (by simp)
    rw [List.pairwise_cons] at hs
    have h1 := hs.1 y (by simp)
    have h2 := (List.pairwise_cons.1 hs.2).1 z (by simp)
    omega
def isThere (n : Int) (l : List Ch) (i : Int) : Bool := l.contains (⟨if i = n - 1 then 0 else i, if i = n - 1 then n - 1 else i + 1⟩ : Ch)
def nextPt (n i : Int) : Int := if i = n - 1 then 0 else i + 1
/-- A region has an arc: as_ the reference looks at its points. -/
def hasArc (n : Int) (l : List Ch) (i : Int) (F : List Int) : Bool := F.contains i && F.contains (nextPt n i) && (!isThere n l i || decide (F.length = 2))
theorem arc_iff {n : Int} {l : List Ch} {q : Option Ch} (h : NC n l) (hn : 3 ≤ n) (hq : ∀ d, q = some d → d ∈ l) {i : Int} (h0 : 0 ≤ i) (h1 : i ≤ n - 1) :
    i ∈ (regOf n l q).2.2 ↔ hasArc n l i (face n l q) = true := by
  have hmem : ∀ x, x ∈ face n l q ↔ 0 ≤ x ∧ x < n ∧ InF l q x := fun x => by rw [mem_face]; exact ⟨fun h => ⟨h.1.1, h.1.2, h.2⟩, fun h => ⟨⟨h.1, h.2.1⟩, h.2.2⟩⟩
  obtain ⟨lo0, lo1, lo2, lo3, lo4⟩ := lo_in h (by omega) hq
  rw [reg_arcs h (by omega) hq]
  unfold hasArc nextPt isThere
  simp only [Bool.and_eq_true, Bool.or_eq_true, Bool.not_eq_true', List.contains_iff_mem, decide_eq_true_iff, hmem]
  have hth : ∀ c : Ch, (l.contains c = false) ↔ c ∉ l := fun c => by rw [← Bool.not_eq_true, List.contains_iff_mem]
  rw [hth]
  by_cases he : i = n - 1
  · subst he
    rw [show (q = none ∧ n - 1 = n - 1) ↔ q = none from and_iff_left rfl]
    simp only [if_true]
    by_cases hc : (⟨0, n - 1⟩ : Ch) ∈ l
    · simp only [hc, not_true, false_or]
      cases q with
      | none =>
        have hl2 : (face n l none).length = 2 := by
          refine len_two (face_lt n l none) (a := 0) (b := n - 1) (by omega) ((hmem 0).2 ⟨by omega, by omega, ?_⟩) ((hmem (n - 1)).2 ⟨by omega, by omega, lo4⟩) fun x hx => ?_
          · exact lo3
          · obtain ⟨x0, x1, x2⟩ := (hmem x).1 hx
            have := x2.2 _ hc trivial
            simp only at this
            omega
        constructor
        · intro _; exact ⟨⟨⟨by omega, by omega, lo4⟩, ⟨by omega, by omega, lo3⟩⟩, hl2⟩
        · intro _; left; rfl
      | some c =>
        have hok := h.ok c (hq c rfl)
        constructor
        · rintro (h5 | ⟨_, h5, _⟩)
          · cases h5
          · simp only [hiOf] at h5; omega
        · rintro ⟨⟨⟨_, _, h5⟩, ⟨_, _, h6⟩⟩, h7⟩
          have w1 : c.f0 ≤ n - 1 ∧ n - 1 ≤ c.f1 := h5.1
          have w2 : c.f0 ≤ 0 ∧ 0 ≤ c.f1 := h6.1
          obtain ⟨x, x1, x2, x3⟩ := third h hn (hq c rfl) (by omega)
          have := three_le ((hmem 0).2 ⟨by omega, by omega, h6⟩) ((hmem x).2 ⟨by omega, by omega, x3⟩) ((hmem (n - 1)).2 ⟨by omega, by omega, h5⟩) (by omega) (by omega)
          omega
    · simp only [hc, not_false_iff, true_or, and_true]
      cases q with
      | none =>
        constructor
        · intro _; exact ⟨⟨by omega, by omega, lo4⟩, ⟨by omega, by omega, lo3⟩⟩
        · intro _; left; rfl
      | some c =>
        have hok := h.ok c (hq c rfl)
        constructor
        · rintro (h5 | ⟨_, h5, _⟩)
          · cases h5
          · simp only [hiOf] at h5; omega
        · rintro ⟨⟨_, _, h5⟩, ⟨_, _, h6⟩⟩
          have w1 : c.f0 ≤ n - 1 ∧ n - 1 ≤ c.f1 := h5.1
          have w2 : c.f0 ≤ 0 ∧ 0 ≤ c.f1 := h6.1
          exact absurd (hq c rfl) (by rwa [show c = ⟨0, n - 1⟩ from ch_ext (by show c.f0 = 0; omega) (by show c.f1 = n - 1; omega)])
  · simp only [if_neg he]
    have hstep : InF l q i → i < hiOf n q → (∀ d ∈ l, below_ d q → d.f0 ≠ i) → InF l q (i + 1) := fun ha hlt hno => by
      refine ⟨?_, fun d hd hbd hx => ?_⟩
      · cases q with
        | none => trivial
        | some c => have : c.f0 ≤ i ∧ i ≤ c.f1 := ha.1
                    have : i < c.f1 := hlt
                    exact ⟨by omega, by omega⟩
      · have := ha.2 d hd hbd
        have := hno d hd hbd
        omega
    have hhi : InF l q i → InF l q (i + 1) → i < hiOf n q := fun ha hb => by
      cases q with
      | none => show i < n - 1; omega
      | some c => have : c.f0 ≤ i + 1 ∧ i + 1 ≤ c.f1 := hb.1
                  show i < c.f1; omega
    by_cases hc : (⟨i, i + 1⟩ : Ch) ∈ l
    · simp only [hc, not_true, false_or]
      by_cases hqc : q = some ⟨i, i + 1⟩
      · subst hqc
        have e0 : InF l (some (⟨i, i + 1⟩ : Ch)) i := lo3
        have e1 : InF l (some (⟨i, i + 1⟩ : Ch)) (i + 1) := lo4
        constructor
        · intro _
          refine ⟨⟨⟨by omega, by omega, e0⟩, ⟨by omega, by omega, e1⟩⟩, len_two (face_lt n l _) (a := i) (b := i + 1) (by omega) ((hmem i).2 ⟨by omega, by omega, e0⟩) ((hmem (i + 1)).2 ⟨by omega, by omega, e1⟩) fun x hx => ?_⟩
          have : i ≤ x ∧ x ≤ i + 1 := ((hmem x).1 hx).2.2.1
          omega
        · intro _
          right
          refine ⟨h0, by show i < i + 1; omega, e0, fun d hd hbd => ?_⟩
          obtain ⟨b1, b2, b3⟩ := hbd
          have := h.ok d hd
          simp only at b2 b3
          exact absurd (ch_ext (by show d.f0 = i; omega) (by show d.f1 = i + 1; omega)) b1
      · have hbelow : InF l q i → i < hiOf n q → below_ ⟨i, i + 1⟩ q := fun ha hlt => by
          cases q with
          | none => trivial
          | some c => have : c.f0 ≤ i ∧ i ≤ c.f1 := ha.1
                      have : i < c.f1 := hlt
                      exact ⟨fun e => hqc (by rw [← e]), by show c.f0 ≤ i; omega, by show i + 1 ≤ c.f1; omega⟩
        constructor
        · rintro (⟨_, h5⟩ | ⟨_, h5, h6, h7⟩)
          · exact absurd h5 he
          · exact absurd rfl (h7 _ hc (hbelow h6 h5))
        · rintro ⟨⟨⟨_, _, h5⟩, ⟨_, _, h6⟩⟩, h7⟩
          exfalso
          have hlt := hhi h5 h6
          have hf0 : loOf q ∈ face n l q := (hmem _).2 ⟨lo0, by omega, lo3⟩
          have hf1 : hiOf n q ∈ face n l q := (hmem _).2 ⟨by omega, lo2, lo4⟩
          have hi0 : i ∈ face n l q := (hmem _).2 ⟨by omega, by omega, h5⟩
          have hi1 : i + 1 ∈ face n l q := (hmem _).2 ⟨by omega, by omega, h6⟩
          have hle : loOf q ≤ i := lo_of_in h hq h5 h0
          by_cases e : loOf q = i
          · have hne : hiOf n q ≠ i + 1 := fun e2 => by
              cases q with
              | none => simp only [loOf, hiOf] at e e2; omega
              | some c => exact hqc (congrArg some (ch_ext e e2))
            have := three_le hi0 hi1 hf1 (by omega) (by omega)
            omega
          · have := three_le hf0 hi0 hi1 (by omega) (by omega)
            omega
    · simp only [hc, not_false_iff, true_or, and_true]
      constructor
      · rintro (⟨_, h5⟩ | ⟨_, h5, h6, h7⟩)
        · exact absurd h5 he
        · exact ⟨⟨by omega, by omega, h6⟩, ⟨by omega, by omega, hstep h6 h5 h7⟩⟩
      · rintro ⟨⟨_, _, h5⟩, ⟨_, _, h6⟩⟩
        right
        refine ⟨h0, hhi h5 h6, h5, fun d hd hbd e => ?_⟩
        have hok := h.ok d hd
        have := h6.2 d hd hbd
        exact hc (by rwa [show (⟨i, i + 1⟩ : Ch) = d from ch_ext e.symm (by show i + 1 = d.f1; omega)])
theorem l1Has_Ev (xs : List Int) (x : Int) (hn : xs.length ≤ 4611686018427387904) : Ev (fun k => spec_l1Has.f k xs x) (xs.contains x) := by
  refine ⟨xs.length + 1, fun k hk => ?_⟩
  unfold spec_l1Has.f
  exact l1Has_l0 xs x hn xs.length 0 k (by omega) (by omega)
def reFrom (p : List Int → Bool) : List (List Int) → Nat → Int
  | [], _ => -1
  | r :: rs, i => if p r = true then (i : Int) else reFrom p rs (i + 1)
theorem reFrom_eq (p : List Int → Bool) (p' : S71 → Bool) : ∀ (xs : List S71), (∀ x ∈ xs, p' x = p x.f0) → ∀ j : Nat, reFrom p (xs.map fun x => x.f0) j = match xs.findIdx? p' with | some k => ((j + k : Nat) : Int) | none => -1
  | [], _, j => rfl
  | x :: xs, h, j => by
    rw [List.map_cons, reFrom, List.findIdx?_cons, ← h x (by simp)]
    cases hp : p' x with
    | true => simp
    | false =>
      rw [if_neg (by simp), reFrom_eq p p' xs (fun y hy => h y (by simp [hy])) (j + 1)]
      cases xs.findIdx? p' with
      | none => simp
      | some k => show ((j + 1 + k : Nat) : Int) = ((j + (k + 1) : Nat) : Int); congr 1; omega
theorem srChord_arc {n i : Int} (hn : 3 ≤ n) (h0 : 0 ≤ i) (h1 : i ≤ n - 1) : spec_srChord.f i (nextPt n i) = some (if i = n - 1 then 0 else i, if i = n - 1 then n - 1 else i + 1) := by
  unfold spec_srChord.f spec_l1Least.f spec_l1Most.f nextPt
  by_cases he : i = n - 1
  · rw [if_pos he, if_pos he, if_pos he]
    split <;> split <;> simp <;> omega
  · rw [if_neg he, if_neg he, if_neg he]
    split <;> split <;> simp <;> omega
theorem reArc_l1 {n : Int} (l : List Ch) (hl : l.length ≤ 1000) (i : Int) (hn : 3 ≤ n) (h0 : 0 ≤ i) (h1 : i ≤ n - 1) (R : List Int) (z : Int) (F : List (List Int)) (len m : Int) (r1 r2 : Int)
    (ht : isThere n l i = true → Ev (fun k => if (R.length : Int) = 2 then some z else spec_reArc.l0 k l i (nextPt n i) F len (wrap64 (m + 1))) r1) (hf : isThere n l i = false → r1 = z) :
    ∀ (d j : Nat) (b : Bool), j + d = l.length → isThere n l i = (b || (l.drop j).contains (⟨if i = n - 1 then 0 else i, if i = n - 1 then n - 1 else i + 1⟩ : Ch)) → Ev (fun k => spec_reArc.l1 k l i (nextPt n i) z R b F len m l (l.length : Int) (j : Int)) r1 := by
  intro d
  induction d with
  | zero =>
    intro j b hd hb
    rw [List.drop_eq_nil_of_le (by omega)] at hb
    simp only [List.contains_nil, Bool.or_false] at hb
    cases b with
    | true =>
      refine Ev.step (fun k => ?_) (ht hb)
      simp only [spec_reArc.l1]
      rw [if_neg (by omega), if_pos trivial]
    | false =>
      refine ev_eq (Ev.some_ (r := z) fun k => ?_) (hf hb).symm
      simp only [spec_reArc.l1]
      rw [if_neg (by omega), if_neg (by simp)]
  | succ d ih =>
    intro j b hd hb
    have hj : j < l.length := by omega
    rw [List.drop_eq_getElem_cons hj, List.contains_cons] at hb
    cases b with
    | true =>
      refine Ev.step (fun k => ?_) (ih (j + 1) true (by omega) (by rw [hb]; simp))
      simp only [spec_reArc.l1]
      rw [if_pos (by omega), if_pos (by omega), if_pos (by omega), if_pos trivial, w64 hj (by omega)]
    | false =>
      refine Ev.step (fun k => ?_) (ih (j + 1) (((⟨if i = n - 1 then 0 else i, if i = n - 1 then n - 1 else i + 1⟩ : Ch)) == l[j]) (by omega) (by rw [hb]; simp))
      simp only [spec_reArc.l1]
      rw [if_pos (by omega), if_pos (by omega), if_pos (by omega), if_neg (by simp), srChord_arc hn h0 h1, Option.bind_some, rdT_at hj, w64 hj (by omega)]
      congr 1
      rw [Bool.eq_iff_iff]
      simp only [Bool.and_eq_true, beq_iff_eq]
      constructor
      · rintro ⟨e1, e2⟩; exact ch_ext e1.symm e2.symm
      · intro e; rw [← e]; exact ⟨rfl, rfl⟩
theorem reArc_l0 {n : Int} (l : List Ch) (hl : l.length ≤ 1000) (i : Int) (hn : 3 ≤ n) (h0 : 0 ≤ i) (h1 : i ≤ n - 1) (F : List (List Int)) (hF : F.length ≤ 1000) (hFl : ∀ r ∈ F, r.length ≤ 1000) :
    ∀ (d j : Nat), j + d = F.length → Ev (fun k => spec_reArc.l0 k l i (nextPt n i) F (F.length : Int) (j : Int)) (reFrom (hasArc n l i) (F.drop j) j) := by
  intro d
  induction d with
  | zero =>
    intro j hd
    rw [List.drop_eq_nil_of_le (by omega)]
    refine Ev.some_ fun k => ?_
    simp only [spec_reArc.l0]
    rw [if_neg (by omega)]
    rfl
  | succ d ih =>
    intro j hd
    have hj : j < F.length := by omega
    have hnext := ih (j + 1) (by omega)
    rw [List.drop_eq_getElem_cons hj, reFrom]
    have hRl := hFl F[j] (List.getElem_mem hj)
    have e0 := l1Has_Ev F[j] i (by omega)
    have e1 := l1Has_Ev F[j] (nextPt n i) (by omega)
    refine Ev.step (f := fun k => (spec_l1Has.f k F[j] i).bind fun t102 => (if t102 = true then ((spec_l1Has.f k F[j] (nextPt n i)).bind fun t103 => (spec_reArc.j1 k l i (nextPt n i) (j : Int) F[j] F (F.length : Int) (j : Int) (!t103))) else (spec_reArc.j1 k l i (nextPt n i) (j : Int) F[j] F (F.length : Int) (j : Int) true))) (fun k => ?_) (Ev.bind e0 ?_)
    · simp only [spec_reArc.l0]
      rw [if_pos (by omega), if_pos (by omega), if_pos (by omega), rdL4_at hj]
    · have hskip : hasArc n l i F[j] = false → Ev (fun k => spec_reArc.j1 k l i (nextPt n i) (j : Int) F[j] F (F.length : Int) (j : Int) true) (if hasArc n l i F[j] = true then (j : Int) else reFrom (hasArc n l i) (F.drop (j + 1)) (j + 1)) := fun hh => by
        rw [hh, if_neg (by simp)]
        refine Ev.step (fun k => ?_) hnext
        simp only [spec_reArc.j1]
        rw [if_pos trivial, w64 hj (by omega)]
      cases c0 : F[j].contains i with
      | false => exact Ev.congr (fun k => by rw [if_neg (by simp)]) (hskip (by unfold hasArc; rw [c0]; rfl))
      | true =>
        refine Ev.congr (fun k => by rw [if_pos rfl]) (Ev.bind e1 ?_)
        cases c1 : F[j].contains (nextPt n i) with
        | false => exact hskip (by unfold hasArc; rw [c1]; simp)
        | true =>
          refine Ev.step (f := fun k => spec_reArc.l1 k l i (nextPt n i) (j : Int) F[j] false F (F.length : Int) (j : Int) l (l.length : Int) 0) (fun k => by simp only [spec_reArc.j1]; rw [if_neg (by simp)]) ?_
          have hha : hasArc n l i F[j] = (!isThere n l i || decide (F[j].length = 2)) := by unfold hasArc; rw [c0, c1]; rfl
          rw [hha]
          refine reArc_l1 l hl i hn h0 h1 F[j] (j : Int) F _ _ _ 0 (fun ht => ?_) (fun ht => by rw [ht]; rfl) l.length 0 false (by omega) (by rw [List.drop_zero]; rfl)
          rw [ht]
          by_cases h2 : F[j].length = 2
          · exact Ev.congr (fun k => by rw [if_pos (by omega)]) (ev_eq (Ev.now _) (by simp [h2]))
          · refine Ev.congr (fun k => by rw [if_neg (by omega), w64 hj (by omega)]) (ev_eq hnext (by simp [h2]))
theorem tmod_next {n i : Int} (hn : 3 ≤ n) (hn60 : n ≤ 60) (h0 : 0 ≤ i) (h1 : i ≤ n - 1) : Int.tmod (wrap64 (i + 1)) n = nextPt n i := by
  rw [w64s (by omega) (by omega)]
  unfold nextPt
  rw [Int.tmod_eq_emod_of_nonneg (by omega)]
  by_cases he : i = n - 1
  · rw [if_pos he, he, show n - 1 + 1 = n by omega, Int.emod_self]
  · rw [if_neg he, Int.emod_eq_of_lt (by omega) (by omega)]
theorem faces_small {n : Int} {l : List Ch} (h : plane n l = true) : ∀ r ∈ faces n l, r.length ≤ 100 := fun r hr => by
  rw [← regs_points h, List.mem_map] at hr
  obtain ⟨x, hx, rfl⟩ := hr
  exact (regs_small h hx).1
theorem reArc_ev {n : Int} {l : List Ch} (h : plane n l = true) {i : Int} (h0 : 0 ≤ i) (h1 : i ≤ n - 1) : Ev (fun k => spec_reArc.f k n l (faces n l) i) (arcOf n l i) := by
  have hn := good_n (plane_good h)
  have hl := good_len (plane_good h)
  unfold spec_reArc.f
  refine Ev.congr (f := fun k => spec_reArc.l0 k l i (nextPt n i) (faces n l) ((faces n l).length : Int) 0) (fun k => by rw [if_neg (by omega), tmod_next (by omega) hn.2 h0 h1]) ?_
  refine ev_eq (reArc_l0 l (by omega) i (by omega) h0 h1 (faces n l) (by rw [faces_length]; omega) (fun r hr => by have := faces_small h r hr; omega) (faces n l).length 0 (by omega)) ?_
  rw [List.drop_zero, ← regs_points h]
  unfold arcOf idxOf
  rw [reFrom_eq (hasArc n l i) (fun r => r.f2.contains i) (regs n l) (fun x hx => ?_) 0]
  · cases (regs n l).findIdx? (fun r => r.f2.contains i) with
    | none => rfl
    | some k => simp
  · obtain ⟨q, hq, rfl⟩ := regs_mem hx
    rw [Bool.eq_iff_iff, List.contains_iff_mem]
    have := arc_iff (plane_nc h) (by omega) (mem_ids.1 hq) h0 h1
    rw [← reg_points (plane_nc h) (by omega) (mem_ids.1 hq)] at this
    exact this
def arcRes (n : Int) (l : List Ch) (i : Int) : Int × Bool := if plane n l = true ∧ 0 ≤ i ∧ i ≤ n - 1 then (arcOf n l i, true) else (0, false)
theorem implArc_ev (n : Int) (l : List Ch) (i : Int) (hl : l.length ≤ 4611686018427387904) : impl_RegionOfArc.f n l i = some (arcRes n l i) := by
  unfold impl_RegionOfArc.f arcRes
  rw [if_pos hl]
theorem specArc_ev (n : Int) (l : List Ch) (i : Int) (hl : l.length ≤ 1048576) : Ev (fun k => spec_RegionOfArc.f k n l i) (arcRes n l i) := by
  unfold spec_RegionOfArc.f arcRes
  refine Ev.bind (rePlane_ev n l (by omega)) ?_
  have hfalse : Ev (fun k => spec_RegionOfArc.j0 k n l i true) (0, false) := Ev.some_ fun k => by simp only [spec_RegionOfArc.j0]; rw [if_pos trivial]
  cases h : plane n l with
  | false => exact Ev.congr (fun k => by rw [if_neg (by simp)]) (ev_eq hfalse (by rw [if_neg (by simp)]))
  | true =>
    have hn := good_n (plane_good h)
    refine Ev.congr (fun k => by rw [if_pos rfl, w64s (by omega) (by omega), l1In_eq, Option.bind_some]) ?_
    by_cases hin : 0 ≤ i ∧ i ≤ n - 1
    · rw [decide_eq_true hin, if_pos ⟨rfl, hin⟩]
      refine Ev.step (fun k => by simp only [spec_RegionOfArc.j0]; rw [if_neg (by simp), reList_eq h, Option.bind_some]) ?_
      exact Ev.bind (reArc_ev h hin.1 hin.2) (Ev.now _)
    · rw [decide_eq_false hin, if_neg (fun h => hin h.2)]
      exact hfalse
theorem FnExactRegionOfArc_ev (n : Int) (l : List S66) (i : Int) (hl : l.length ≤ 9223372036854775807) : Ev (fun k => laws_FnExactRegionOfArc.f k n l i) true := by
  unfold laws_FnExactRegionOfArc.f
  rw [szChordS_eq l hl]
  simp only [Option.bind_some]
  by_cases hbig : 1048576 < l.length
  · exact Ev.congr (fun k => by rw [if_pos hbig, if_pos (by decide)]) (Ev.now true)
  · have hl2 : l.length ≤ 1048576 := by omega
    have hcl := toCh_length l
    have hto := toChordS_ev l hl2
    have hsp := specArc_ev n (toCh l) i (by omega)
    have him := implArc_ev n (toCh l) i (by omega)
    have hec := eqChordS_refl (toCh l) (by omega)
    generalize arcRes n (toCh l) i = sz at hsp him
    refine Ev.congr (fun k => by rw [if_neg hbig, if_neg (by omega)]) ?_
    refine Ev.bind hto (Ev.bind hsp (Ev.bind hto ?_))
    refine Ev.congr (f := fun k => laws_FnExactRegionOfArc.j0 k l (toCh l) false) (fun k => by rw [him, Option.bind_some, if_pos rfl]; simp) ?_
    refine Ev.step (fun k => by simp only [laws_FnExactRegionOfArc.j0]; rw [if_neg (by simp)]) ?_
    refine Ev.bind hto (Ev.bind hec ?_)
    exact Ev.congr (fun k => by rw [if_pos rfl]) (Ev.now true)
theorem FnExactRegionOfArc_true (a0 : Int) (A : Option Addr) (c : Nat) (l : List S66) (a2 : Int) (w : World) (hr : Kd.C k66 w A l.length l) (hc : l.length ≤ c) (hw : ∀ c ∈ l, (Lit.int .i64 c.f0).wf = true ∧ (Lit.int .i64 c.f1).wf = true) :
    Calls Try.prog 4 #[.int .i64 a0, .slice A l.length c, .int .i64 a2] w fun e w' => e = .returned (.bool true) ∧ Below w.heap.size w w' := by
  obtain ⟨k, hk⟩ := FnExactRegionOfArc_ev a0 l a2 hr.2.1
  exact laws_FnExactRegionOfArc.calls k a0 A c l a2 true w hr hc (hk k (Nat.le_refl _))
end Go.Proofs.Yteeghncofacmhaa.Q
end
section
/- The row of FnExactRegionOfArc, lifted from its walk; no condition. -/
namespace Go.Proofs.Yteeghncofacmhaa.fnExactRegionOfArc
open Go.ChangeShapes Go.WideShapes Go.ChangeAt Go.RowKit
set_option linter.unusedVariables false
theorem own : ownKnob Try.prog.godebug = none := by kernel_rfl
theorem laidOut : laidOutB Try.prog = true := by kernel_rfl
set_option maxRecDepth 100000 in
theorem lifted (os : Os) (started : os.Started) (H : Type) (enc : TypeId × Value → H) :
    ReturnsInHanded {} Try.checked os 4 .any (Rows.fnExactRegionOfArcSpec.pre6 enc Try.prog Try.f4 Rows.fnExactRegionOfArcRow.domain false) (Rows.fnExactRegionOfArcSpec.post enc Try.prog Try.f4 false true false false) := by
  refine returnsInHanded_of_change_sized (C := Try.checked) own started (by kernel_rfl) Try.func4
    (ChangeSpec.witness6 (enc := enc) (C := Try.checked) false ⟨#[], #[.int .i64 0, .slice none 0 0, .int .i64 0], []⟩ 8 (by kernel_rfl) (by kernel_rfl) (by kernel_rfl) (by kernel_rfl)) ?_
  intro W base args ds gs before hval0 hW hcnd hsz0 _
  have hval : ∀ (j : Nat) t v, Try.f4.params[j]? = some t → args[j]? = some v → Value.okWide Try.prog W .any base t v := hval0
  have hW' := hW
  obtain ⟨p, q, hA0, hV, rfl, hfz, hnd⟩ := hW
  have hA : DataW.TrodAll enc Try.prog W 0 (fun _ => true) true Try.f4.params.toList args.toList ds p := hA0
  rw [Try.params4] at hA hval
  obtain ⟨v0, vs0, d0, ds0, p0, q0, hargs, rfl, rfl, h0, r0⟩ := trodAll_cons hA
  obtain ⟨v1, vs1, d1, ds1, p1, q1, rfl, rfl, rfl, h1, r1⟩ := trodAll_cons r0
  obtain ⟨v2, vs2, d2, ds2, p2, q2, rfl, rfl, rfl, h2, r2⟩ := trodAll_cons r1
  obtain ⟨rfl, rfl, rfl⟩ := trodAll_nil r2
  obtain rfl : args = #[v0, v1, v2] := by cases args; simp_all
  obtain ⟨rfl, rfl⟩ := trodVars_none hV
  obtain ⟨i0, rfl⟩ := okWide_int Try.underlying3 (hval 0 3 v0 rfl rfl)
  obtain ⟨a1, len1, cap1, rfl⟩ := okWide_slice Try.underlying22 (hval 1 22 v1 rfl rfl)
  have k0 := h0
  have lt0 : ∀ x ∈ p0, x.block < W.heap.size := by obtain ⟨m, hm⟩ := k0; exact DataW.trod_lt m _ _ _ hm
  have k1 := h1
  have lt1 : ∀ x ∈ p1, x.block < W.heap.size := by obtain ⟨m, hm⟩ := k1; exact DataW.trod_lt m _ _ _ hm
  obtain ⟨l, rfl, hcap, hC, hwf⟩ := Q.chords_of_trod h1
  obtain ⟨i2, rfl⟩ := okWide_int Try.underlying3 (hval 2 3 v2 rfl rfl)
  have k2 := h2
  have lt2 : ∀ x ∈ p2, x.block < W.heap.size := by obtain ⟨m, hm⟩ := k2; exact DataW.trod_lt m _ _ _ hm
  clear hA0 hval0 hsz0
  refine (Q.FnExactRegionOfArc_true i0 a1 cap1 l i2 W hC hcap hwf).mono fun e W' ⟨he, bel⟩ => ?_
  subst he
  exact ⟨_, rfl, _, _, _, [], _, [], hW', trodAll_mk1 (shut_bool Try.underlying4 _), (trodAll_cons_mk (Below.trod laidOut (by kernel_rfl) (of_decide_eq_true (by kernel_rfl)) k0 bel lt0) (trodAll_cons_mk (Below.trod laidOut (by kernel_rfl) (of_decide_eq_true (by kernel_rfl)) k1 bel lt1) (trodAll_cons_mk (Below.trod laidOut (by kernel_rfl) (of_decide_eq_true (by kernel_rfl)) k2 bel lt2) trodAll_mk0))), rfl, bel.frame _, fun h => by cases h⟩
theorem over : Rows.fnExactRegionOfArcRow.holds Try.pinned (OpenSpec.ofChange Rows.fnExactRegionOfArcSpec) :=
  OpenClaim.holds_of_wide 4 Try.f4 rfl rfl rfl rfl rfl rfl rfl ⟨rfl, rfl, rfl, rfl, rfl⟩ rfl rfl rfl rfl rfl (by kernel_rfl) Try.func4 (by kernel_rfl)
    (of_decide_eq_true (by kernel_rfl)) (by unfold Func.isWrapper; first | (rw [if_pos (by decide +kernel)]; kernel_rfl) | (rw [if_neg (by decide +kernel)]; exact ⟨rfl, rfl⟩))
    (fun os started H enc _ => lifted os started H enc)
theorem proved : Rows.FnExactRegionOfArcSaid := over
end Go.Proofs.Yteeghncofacmhaa.fnExactRegionOfArc
namespace Go.Proofs.Yteeghncofacmhaa
/-- The row, under a short name, for the claim. -/
theorem fnExactRegionOfArc_holds : Rows.FnExactRegionOfArcSaid := fnExactRegionOfArc.proved
end Go.Proofs.Yteeghncofacmhaa
end
#print axioms Go.Proofs.Yteeghncofacmhaa.fnExactRegionOfArc_holds
