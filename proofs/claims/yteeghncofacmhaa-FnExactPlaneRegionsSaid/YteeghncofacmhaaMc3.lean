/- The proof of FnExactPlaneRegions, part 4 of 6; no condition: the statement as it is given. Merged by pack.py out of this session's texts. -/
import Derived.Test.YteeghncofacmhaaMc0
import Derived.Test.YteeghncofacmhaaMc2
section
namespace Go.Proofs.Yteeghncofacmhaa.Q
open Go.RowKit Go.Proofs.YteeghncofacmhaaW.PrintWords Go.Proofs.YteeghncofacmhaaW.PrintLast Go.Proofs.YteeghncofacmhaaW.PrintMore
attribute [local go_sem] max2_int min2_int max_two min_two max_three min_three max_four min_four   -- for this text's walks alone
set_option linter.unusedVariables false
set_option linter.unusedSimpArgs false
attribute [local go_sem high] eqA64
/-! ### impl_regionInside: function 104 -/
mutual
def impl_regionInside.j0 : Nat → List (S64) → Bool → Int → Int → List Int → List (S64) → List Int → Option (List Int × (List (S64)) × List Int)
  | 0, _, _, _, _, _, _, _ => none
  | k + 1, x0, x2, x102000, x102001, x107000, x107001, x107002 => impl_regionInside.l0 k x0 x2 x102000 x102000 x102001 x107000 x107001 x107002
def impl_regionInside.l0 : Nat → List (S64) → Bool → Int → Int → Int → List Int → List (S64) → List Int → Option (List Int × (List (S64)) × List Int)
  | 0, _, _, _, _, _, _, _, _ => none
  | k + 1, x0, x2, x8, x102000, x102001, x107000, x107001, x107002 => if x8 < x102001 then (impl_regionInside.l1 k x0 x2 x8 x8 x0 (x0.length : Int) 0 x102000 x102001 x107000 x107001 x107002) else (some (x107000, x107001, x107002))
def impl_regionInside.l1 : Nat → List (S64) → Bool → Int → Int → List (S64) → Int → Int → Int → Int → List Int → List (S64) → List Int → Option (List Int × (List (S64)) × List Int)
  | 0, _, _, _, _, _, _, _, _, _, _, _, _ => none
  | k + 1, x0, x2, x8, x9, x37, x38, x39, x102000, x102001, x107000, x107001, x107002 => if x39 < x38 then (if 0 ≤ x39 then (if x39 < (x37.length : Int) then (if ((rd_T64 x37 x39).f0) = x8 then (if ((rd_T64 x37 x39).f1) ≤ x102001 then (if ((rd_T64 x37 x39).f1) > x9 then (if x2 = true then (if ((((rd_T64 x37 x39).f0) == x102000 && (((rd_T64 x37 x39).f1) == x102001)) = true) then (impl_regionInside.l1 k x0 x2 x8 x9 x37 x38 (wrap64 (x39 + 1)) x102000 x102001 x107000 x107001 x107002) else (impl_regionInside.l1 k x0 x2 x8 ((rd_T64 x37 x39).f1) x37 x38 (wrap64 (x39 + 1)) x102000 x102001 x107000 x107001 x107002)) else (impl_regionInside.l1 k x0 x2 x8 ((rd_T64 x37 x39).f1) x37 x38 (wrap64 (x39 + 1)) x102000 x102001 x107000 x107001 x107002)) else (impl_regionInside.l1 k x0 x2 x8 x9 x37 x38 (wrap64 (x39 + 1)) x102000 x102001 x107000 x107001 x107002)) else (impl_regionInside.l1 k x0 x2 x8 x9 x37 x38 (wrap64 (x39 + 1)) x102000 x102001 x107000 x107001 x107002)) else (impl_regionInside.l1 k x0 x2 x8 x9 x37 x38 (wrap64 (x39 + 1)) x102000 x102001 x107000 x107001 x107002)) else (none)) else (none)) else (if x9 > x8 then (if x107001.length < 8796093022208 then (if x107000.length < 17592186044416 then (impl_regionInside.l0 k x0 x2 x9 x102000 x102001 (x107000 ++ [x9]) (x107001 ++ [(⟨x8, x9⟩ : S64)]) x107002) else (none)) else (none)) else (if x107002.length < 17592186044416 then (if x107000.length < 17592186044416 then (impl_regionInside.l0 k x0 x2 (wrap64 (x8 + 1)) x102000 x102001 (x107000 ++ [wrap64 (x8 + 1)]) x107001 (x107002 ++ [x8])) else (none)) else (none)))
end
def impl_regionInside.f (k : Nat) (l0 : List (S64)) (a1_0 : Int) (a1_1 : Int) (a2 : Bool) : Option (List Int × (List (S64)) × List Int) := (some (([a1_0] : List Int) : List Int)).bind fun y103 => (if a2 = true then (if ([] : List (S64)).length < 8796093022208 then (impl_regionInside.j0 k l0 a2 a1_0 a1_1 y103 (([] : List (S64)) ++ [(⟨a1_0, a1_1⟩ : S64)]) ([] : List Int)) else (none)) else (if ([] : List Int).length < 17592186044416 then (impl_regionInside.j0 k l0 a2 a1_0 a1_1 y103 ([] : List (S64)) (([] : List Int) ++ [a1_1])) else (none)))
set_option maxHeartbeats 8000000 in
set_option maxRecDepth 100000 in
theorem impl_regionInside.calls (k : Nat) (A0 : Option Addr) (c0 : Nat) (l0 : List (S64)) (a1_0 : Int) (a1_1 : Int) (a2 : Bool) (r1 : List Int) (r2 : List (S64)) (r3 : List Int) (w : World) (hr0 : Kd.C k64 w A0 l0.length l0) (hc0 : l0.length ≤ c0) (h : impl_regionInside.f k l0 a1_0 a1_1 a2 = some (r1, r2, r3)) :
    Calls Try.prog 104 #[.slice A0 l0.length c0, .agg #[.int .i64 a1_0, .int .i64 a1_1], .bool a2] w fun e w' => ∃ v0_ v1_ v2_ : Value, e = .returned (.agg #[v0_, v1_, v2_]) ∧ Kd.R (Kd.int .i64) 3 w' w.heap.size (fun k_ => some k_ ≠ (v2_ : Value).ownBlock) v0_ r1 ∧ Kd.R k64 64 w' w.heap.size (fun _ => True) v1_ r2 ∧ Kd.R (Kd.int .i64) 3 w' w.heap.size (fun k_ => some k_ ≠ (v0_ : Value).ownBlock) v2_ r3 ∧ Below w.heap.size w w' := by
  have hu64 := Try.underlying64
  have hu71 := Try.underlying71
  have HR0 := Aside0.mk hr0
  have HC0 := Aside0.mk hc0
  clear hr0 hc0
  have HB := Aside0.mk (Below.refl w.heap.size w)
  have H : ((some (([a1_0] : List Int) : List Int)).bind fun y103 => (if a2 = true then (if ([] : List (S64)).length < 8796093022208 then (impl_regionInside.j0 k l0 a2 a1_0 a1_1 y103 (([] : List (S64)) ++ [(⟨a1_0, a1_1⟩ : S64)]) ([] : List Int)) else (none)) else (if ([] : List Int).length < 17592186044416 then (impl_regionInside.j0 k l0 a2 a1_0 a1_1 y103 ([] : List (S64)) (([] : List Int) ++ [a1_1])) else (none)))) = some (r1, r2, r3) := h
  clear h
  obtain ⟨y103, hy103⟩ : ∃ y_ : List Int, y_ = (([a1_0] : List Int)) := ⟨_, rfl⟩
  replace H : (if a2 = true then (if ([] : List (S64)).length < 8796093022208 then (impl_regionInside.j0 k l0 a2 a1_0 a1_1 y103 (([] : List (S64)) ++ [(⟨a1_0, a1_1⟩ : S64)]) ([] : List Int)) else (none)) else (if ([] : List Int).length < 17592186044416 then (impl_regionInside.j0 k l0 a2 a1_0 a1_1 y103 ([] : List (S64)) (([] : List Int) ++ [a1_1])) else (none))) = some (r1, r2, r3) := by first | (rw [hy103]; with_reducible exact H) | (have H2_ := (Option.bind_some _ _).symm.trans H; rw [hy103]; with_reducible exact H2_) | (have H2_ := (Option.bind_some _ _).symm.trans H; with_reducible exact H2_) | with_reducible exact H | (rw [hy103]; exact H) | exact H
  have Ny103 := Aside0.mk hy103
  clear hy103
  have HC4 := Aside0.mk H
  clear H
  go_enter Try.func104, Try.ntmps104
  go_upto_if 16 with (first | ((with_reducible refine gate_dst (N := 4) rfl ?_); refine box_event ?hg (N := 4) ?hd (cs := #[.int .i64 a1_0, .int .i64 a1_1]) (t := 64) ?hr ?_; (case hd => rfl); (case hg => rfl); (case hr => first | (go_simp; done) | (go_simp; rfl)); intro gb101 hg w5 hbox hb; have n0_ := Aside0.mk (below_step (by repeat (first | (with_reducible first | exact HB.out | apply below_alloc | apply pw_below_drewN | apply below_drew1) | exact HB.out)) hb); have n1_ := Aside0.mk (hbox); have n2_ := Aside0.mk ((by rw [hg]; exact (below_size (by repeat (first | (with_reducible first | exact HB.out | apply below_alloc | apply pw_below_drewN | apply below_drew1) | exact HB.out))) : w.heap.size ≤ gb101)); have n3_ := Aside0.mk ((by rw [hg]; exact (below_size (by repeat (first | (with_reducible first | exact HB.out | apply below_alloc | apply pw_below_drewN | apply below_drew1) | exact HB.out))) : w.heap.size ≤ gb101)); clear HB; have HB := n0_; have BK101 := n1_; have GW101 := n2_; have GE101 := n3_; clear n0_ n1_ n2_ n3_; clear hb hbox hg) | ((with_reducible refine gate_dst (N := 6) rfl ?_); refine box_event ?hg (N := 6) ?hd (cs := #[.slice none 0 0, .slice none 0 0, .slice none 0 0]) (t := 71) ?hr ?_; (case hd => rfl); (case hg => rfl); (case hr => first | (go_simp; done) | (go_simp; rfl)); intro gb102 hg w6 hbox hb; have n0_ := Aside0.mk (blk_below (g := gb101) (o := .cells #[.int .i64 a1_0, .int .i64 a1_1] 64 (0, 0)) (by (with_reducible repeat (first | refine blk_drewN ?_ _ | refine blk_drew ?_ | refine blk_alloc ?_ _)); exact BK101.out) hb); have n1_ := Aside0.mk (below_step (by repeat (first | (with_reducible first | exact HB.out | apply below_alloc | apply pw_below_drewN | apply below_drew1 | refine below_set ?_ GE101.out) | exact HB.out)) hb); have n2_ := Aside0.mk (hbox); have n3_ := Aside0.mk ((by rw [hg]; exact (below_size (by repeat (first | (with_reducible first | exact HB.out | apply below_alloc | apply pw_below_drewN | apply below_drew1 | refine below_set ?_ GE101.out) | exact HB.out))) : w.heap.size ≤ gb102)); have n4_ := Aside0.mk ((by rw [hg]; exact (below_size (by repeat (first | (with_reducible first | exact HB.out | apply below_alloc | apply pw_below_drewN | apply below_drew1 | refine below_set ?_ GE101.out) | exact HB.out))) : w.heap.size ≤ gb102)); have n5_ := Aside0.mk ((by rw [hg]; exact Nat.ne_of_lt (blk_lt (g := gb101) (o := .cells #[.int .i64 a1_0, .int .i64 a1_1] 64 (0, 0)) (by (with_reducible repeat (first | refine blk_drewN ?_ _ | refine blk_drew ?_ | refine blk_alloc ?_ _)); exact BK101.out)) : gb101 ≠ gb102)); have n6_ := Aside0.mk ((by rw [hg]; exact Nat.ne_of_gt (blk_lt (g := gb101) (o := .cells #[.int .i64 a1_0, .int .i64 a1_1] 64 (0, 0)) (by (with_reducible repeat (first | refine blk_drewN ?_ _ | refine blk_drew ?_ | refine blk_alloc ?_ _)); exact BK101.out)) : gb102 ≠ gb101)); clear BK101; clear HB; have BK101 := n0_; have HB := n1_; have BK102 := n2_; have GW102 := n3_; have GE102 := n4_; have NB101_102 := n5_; have NB102_101 := n6_; clear n0_ n1_ n2_ n3_ n4_ n5_ n6_; clear hb hbox hg; have hnb7 := NB101_102.out; have hnc7 := NB102_101.out; have hcz8_0 : w6.cell? ⟨gb101, 0, none⟩ = some (.int .i64 a1_0) := (blk_cell BK101.out 0).trans rfl; have hcz8_1 : w6.cell? ⟨gb101, 1, none⟩ = some (.int .i64 a1_1) := (blk_cell BK101.out 1).trans rfl; have hfz8_0 := blk_frozen BK101.out 0; have hfz8_1 := blk_frozen BK101.out 1) | ((with_reducible refine gate_dst (N := 14) rfl ?_); refine Kd.R_lit (Kd.int .i64) _ 3 ?hg (N := 14) ?hd (xs := ([a1_0] : List Int)) (inner := [.int .i64 a1_0]) (ok := fun _ => True) (okp := fun _ => True) ?hr ?hp (fun _ hk => hk) trivial (Below.refl _ _) (Nat.le_refl _) (by simp) ?_; (case hd => rfl); (case hg => rfl); (case hr => first | (go_simp; done) | (go_simp; rfl)); (case hp => exact (Reps.one (show Kd.M (Kd.int .i64) _ _ _ a1_0 [.int .i64 a1_0] from rfl) (Reps.none _ _))); intro v104 w9 ho10 hb hg_ hnew_; clear hg_ hnew_; (first | rw [← Ny103.out] at ho10 | (simp only [Int.reduceToNat] at ho10; rw [← Ny103.out] at ho10)); have n0_ := Aside0.mk (Kd.R_lower ho10 (below_size (by repeat (first | (with_reducible first | exact HB.out | apply below_alloc | apply pw_below_drewN | apply below_drew1 | refine below_set ?_ GE101.out | refine below_set ?_ GE102.out) | exact HB.out)))); have n1_ := Aside0.mk (blk_below (g := gb101) (o := .cells #[.int .i64 a1_0, .int .i64 a1_1] 64 (0, 0)) (by (with_reducible repeat (first | refine blk_drewN ?_ _ | refine blk_drew ?_ | refine blk_alloc ?_ _)); exact BK101.out) hb); have n2_ := Aside0.mk (blk_below (g := gb102) (o := .cells #[.slice none 0 0, .slice none 0 0, .slice none 0 0] 71 (0, 0)) (by (with_reducible repeat (first | refine blk_drewN ?_ _ | refine blk_drew ?_ | refine blk_alloc ?_ _)); exact BK102.out) hb); have n3_ := Aside0.mk (below_step (by repeat (first | (with_reducible first | exact HB.out | apply below_alloc | apply pw_below_drewN | apply below_drew1 | refine below_set ?_ GE101.out | refine below_set ?_ GE102.out) | exact HB.out)) hb); clear BK101; clear BK102; clear HB; have HO105 := n0_; have BK101 := n1_; have BK102 := n2_; have HB := n3_; clear n0_ n1_ n2_ n3_; clear hb ho10; obtain ⟨Ao11, co11, eo11⟩ := Kd.R_slice HO105.out; subst eo11) | ((with_reducible refine gate_dst (N := 7) rfl ?_); refine box_event ?hg (N := 7) ?hd (cs := #[.slice none 0 0, .slice none 0 0, .slice none 0 0]) (t := 71) ?hr ?_; (case hd => rfl); (case hg => rfl); (case hr => first | (go_simp; done) | (go_simp; rfl)); intro gb106 hg w12 hbox hb; have n0_ := Aside0.mk (Kd.R_below (by (with_reducible repeat (first | apply Kd.R_alloc | apply Kd.R_drewN | apply Kd.R_drew)); exact HO105.out) hb); have n1_ := Aside0.mk (blk_below (g := gb101) (o := .cells #[.int .i64 a1_0, .int .i64 a1_1] 64 (0, 0)) (by (with_reducible repeat (first | refine blk_drewN ?_ _ | refine blk_drew ?_ | refine blk_alloc ?_ _)); exact BK101.out) hb); have n2_ := Aside0.mk (blk_below (g := gb102) (o := .cells #[.slice none 0 0, .slice none 0 0, .slice none 0 0] 71 (0, 0)) (by (with_reducible repeat (first | refine blk_drewN ?_ _ | refine blk_drew ?_ | refine blk_alloc ?_ _)); exact BK102.out) hb); have n3_ := Aside0.mk (below_step (by repeat (first | (with_reducible first | exact HB.out | apply below_alloc | apply pw_below_drewN | apply below_drew1 | refine below_set ?_ GE101.out | refine below_set ?_ GE102.out) | exact HB.out)) hb); have n4_ := Aside0.mk (hbox); have n5_ := Aside0.mk ((by rw [hg]; exact (below_size (by repeat (first | (with_reducible first | exact HB.out | apply below_alloc | apply pw_below_drewN | apply below_drew1 | refine below_set ?_ GE101.out | refine below_set ?_ GE102.out) | exact HB.out))) : w.heap.size ≤ gb106)); have n6_ := Aside0.mk ((by rw [hg]; exact (below_size (by repeat (first | (with_reducible first | exact HB.out | apply below_alloc | apply pw_below_drewN | apply below_drew1 | refine below_set ?_ GE101.out | refine below_set ?_ GE102.out) | exact HB.out))) : w.heap.size ≤ gb106)); have n7_ := Aside0.mk ((by rw [hg]; exact Nat.ne_of_lt (blk_lt (g := gb101) (o := .cells #[.int .i64 a1_0, .int .i64 a1_1] 64 (0, 0)) (by (with_reducible repeat (first | refine blk_drewN ?_ _ | refine blk_drew ?_ | refine blk_alloc ?_ _)); exact BK101.out)) : gb101 ≠ gb106)); have n8_ := Aside0.mk ((by rw [hg]; exact Nat.ne_of_gt (blk_lt (g := gb101) (o := .cells #[.int .i64 a1_0, .int .i64 a1_1] 64 (0, 0)) (by (with_reducible repeat (first | refine blk_drewN ?_ _ | refine blk_drew ?_ | refine blk_alloc ?_ _)); exact BK101.out)) : gb106 ≠ gb101)); have n9_ := Aside0.mk ((by rw [hg]; exact Nat.ne_of_lt (blk_lt (g := gb102) (o := .cells #[.slice none 0 0, .slice none 0 0, .slice none 0 0] 71 (0, 0)) (by (with_reducible repeat (first | refine blk_drewN ?_ _ | refine blk_drew ?_ | refine blk_alloc ?_ _)); exact BK102.out)) : gb102 ≠ gb106)); have n10_ := Aside0.mk ((by rw [hg]; exact Nat.ne_of_gt (blk_lt (g := gb102) (o := .cells #[.slice none 0 0, .slice none 0 0, .slice none 0 0] 71 (0, 0)) (by (with_reducible repeat (first | refine blk_drewN ?_ _ | refine blk_drew ?_ | refine blk_alloc ?_ _)); exact BK102.out)) : gb106 ≠ gb102)); clear HO105; clear BK101; clear BK102; clear HB; have HO105 := n0_; have BK101 := n1_; have BK102 := n2_; have HB := n3_; have BK106 := n4_; have GW106 := n5_; have GE106 := n6_; have NB101_106 := n7_; have NB106_101 := n8_; have NB102_106 := n9_; have NB106_102 := n10_; clear n0_ n1_ n2_ n3_ n4_ n5_ n6_ n7_ n8_ n9_ n10_; clear hb hbox hg; have hnb13 := NB106_101.out; have hnc13 := NB101_106.out; have hnb14 := NB106_102.out; have hnc14 := NB102_106.out; have hcz15_0 : w12.cell? ⟨gb106, 0, none⟩ = some (.slice none 0 0) := (blk_cell BK106.out 0).trans rfl; have hcz15_1 : w12.cell? ⟨gb106, 1, none⟩ = some (.slice none 0 0) := (blk_cell BK106.out 1).trans rfl; have hcz15_2 : w12.cell? ⟨gb106, 2, none⟩ = some (.slice none 0 0) := (blk_cell BK106.out 2).trans rfl; have hfz15_0 := blk_frozen BK106.out 0; have hfz15_1 := blk_frozen BK106.out 1; have hfz15_2 := blk_frozen BK106.out 2))
  (try simp only [Act.put, List.setIfInBounds_toArray, List.set_cons_zero, List.set_cons_succ])
  go_cut [] (fun wc => ∃ (kq : Nat) (x107001_3 : List (S64)) (x107002_3 : List Int) (u107001 : Value) (u107002 : Value), Aside0 (impl_regionInside.j0 kq l0 a2 a1_0 a1_1 y103 x107001_3 x107002_3 = some (r1, r2, r3)) ∧ Aside0 (kq ≤ k) ∧ Aside0 (Kd.R (Kd.int .i64) 3 wc w.heap.size (fun k_ => some k_ ≠ (u107002 : Value).ownBlock) (.slice Ao11 y103.length co11) y103) ∧ Aside0 (Kd.R k64 64 wc w.heap.size (fun k_ => k_ ≠ gb101) u107001 x107001_3) ∧ Aside0 (Kd.R (Kd.int .i64) 3 wc w.heap.size (fun k_ => some k_ ≠ ((.slice Ao11 y103.length co11) : Value).ownBlock) u107002 x107002_3) ∧ Aside0 (wc.heap[gb101]? = some (.cells #[.int .i64 a1_0, .int .i64 a1_1] 64 (0, 0))) ∧ Aside0 (wc.heap[gb102]? = some (.cells #[(.slice none 0 0), (.slice none 0 0), (.slice none 0 0)] 71 (0, 0))) ∧ Aside0 (wc.heap[gb106]? = some (.cells #[(.slice Ao11 y103.length co11), u107001, u107002] 71 (0, 0))) ∧ Aside0 (Below w.heap.size w wc))
  case first =>
    have H := HC4.out
    clear HC4
    by_cases c16 : a2 = true
    · subst c16
      have H1 : (if ([] : List (S64)).length < 8796093022208 then (impl_regionInside.j0 k l0 true a1_0 a1_1 y103 (([] : List (S64)) ++ [(⟨a1_0, a1_1⟩ : S64)]) ([] : List Int)) else (none)) = some (r1, r2, r3) := by rw [if_pos rfl] at H; exact H
      clear H
      have H := H1
      clear H1
      by_cases c17 : ([] : List (S64)).length < 8796093022208
      · rw [if_pos c17] at H
        have LMc17 := Aside0.mk c17
        clear c17
        obtain ⟨y107, hy107⟩ : ∃ y_ : List (S64), y_ = (([] : List (S64)) ++ [(⟨a1_0, a1_1⟩ : S64)]) := ⟨_, rfl⟩
        replace H : (impl_regionInside.j0 k l0 true a1_0 a1_1 y103 y107 ([] : List Int)) = some (r1, r2, r3) := by first | (rw [hy107]; with_reducible exact H) | (have H2_ := (Option.bind_some _ _).symm.trans H; rw [hy107]; with_reducible exact H2_) | (have H2_ := (Option.bind_some _ _).symm.trans H; with_reducible exact H2_) | with_reducible exact H | (rw [hy107]; exact H) | exact H
        have Ny107 := Aside0.mk hy107
        clear hy107
        have H' := Aside0.mk H
        clear H
        have hnb18 := NB106_101.out
        have hnc18 := NB101_106.out
        have hnb19 := NB106_102.out
        have hnc19 := NB102_106.out
        have hcz20_0 : w12.cell? ⟨gb106, 0, none⟩ = some (.slice none 0 0) := (blk_cell BK106.out 0).trans rfl
        have hcz20_1 : w12.cell? ⟨gb106, 1, none⟩ = some (.slice none 0 0) := (blk_cell BK106.out 1).trans rfl
        have hcz20_2 : w12.cell? ⟨gb106, 2, none⟩ = some (.slice none 0 0) := (blk_cell BK106.out 2).trans rfl
        have hfz20_0 := blk_frozen BK106.out 0
        have hfz20_1 := blk_frozen BK106.out 1
        have hfz20_2 := blk_frozen BK106.out 2
        have hnb21 := NB101_102.out
        have hnc21 := NB102_101.out
        have hcz22_0 : w12.cell? ⟨gb101, 0, none⟩ = some (.int .i64 a1_0) := (blk_cell BK101.out 0).trans rfl
        have hcz22_1 : w12.cell? ⟨gb101, 1, none⟩ = some (.int .i64 a1_1) := (blk_cell BK101.out 1).trans rfl
        have hfz22_0 := blk_frozen BK101.out 0
        have hfz22_1 := blk_frozen BK101.out 1
        go_wp2_with (first | ((with_reducible refine gate_builtin (b := .append) (xs := #[.tmp 18, .tmp 20]) rfl ?_); at_builtin; refine Kd.R_append k64 (w0 := w) w.heap.size rfl (.tmp 18) (.tmp 20) 27 64 (.agg #[(.int .i64 0), (.int .i64 0)]) 16 rfl Try.underlying27 info64 rfl (by decide) (by omega) (.slice none 0 0) ([] : List (S64)) (⟨a1_0, a1_1⟩ : S64) [.int .i64 a1_0, .int .i64 a1_1] (fun k_ => k_ ≠ gb101) (fun _ => False) rfl (by first | (go_simp; done) | (go_simp; rfl)) ?aP (fun _ hk => hk.elim) ?aF ?aO ?aB ?aS ?aL ?_; (case aP => exact k64_mkM _ _ _ (⟨a1_0, a1_1⟩ : S64)); (case aB => exact (by repeat (first | (with_reducible first | exact HB.out | apply below_alloc | apply pw_below_drewN | apply below_drew1 | refine below_set ?_ GE101.out | refine below_set ?_ GE102.out | refine below_set ?_ GE106.out) | exact HB.out))); (case aF => exact (fun k_ hk => Kd.freshB (g := gb101) (o := .cells #[.int .i64 a1_0, .int .i64 a1_1] 64 (0, 0)) (by (with_reducible repeat (first | refine blk_drewN ?_ _ | refine blk_drew ?_ | refine blk_alloc ?_ _)); refine blk_far ?_ NB101_106.out _; (with_reducible repeat (first | refine blk_drewN ?_ _ | refine blk_drew ?_ | refine blk_alloc ?_ _)); refine blk_far ?_ NB101_106.out _; (with_reducible repeat (first | refine blk_drewN ?_ _ | refine blk_drew ?_ | refine blk_alloc ?_ _)); refine blk_far ?_ NB101_106.out _; (with_reducible repeat (first | refine blk_drewN ?_ _ | refine blk_drew ?_ | refine blk_alloc ?_ _)); exact BK101.out) k_ hk)); (case aO => exact ((Kd.R_nil _ _ _ _ (fun k_ => k_ ≠ gb101)))); (case aS => exact (below_size (by repeat (first | (with_reducible first | exact HB.out | apply below_alloc | apply pw_below_drewN | apply below_drew1 | refine below_set ?_ GE101.out | refine below_set ?_ GE102.out | refine below_set ?_ GE106.out) | exact HB.out)))); (case aL => have := LMc17.out; omega); intro v108 w23 ho hb hg hat; rw [← Ny107.out] at ho; have n0_ := Aside0.mk (blk_grown (g := gb101) (o := .cells #[.int .i64 a1_0, .int .i64 a1_1] 64 (0, 0)) (by (with_reducible repeat (first | refine blk_drewN ?_ _ | refine blk_drew ?_ | refine blk_alloc ?_ _)); refine blk_far ?_ NB101_106.out _; (with_reducible repeat (first | refine blk_drewN ?_ _ | refine blk_drew ?_ | refine blk_alloc ?_ _)); refine blk_far ?_ NB101_106.out _; (with_reducible repeat (first | refine blk_drewN ?_ _ | refine blk_drew ?_ | refine blk_alloc ?_ _)); refine blk_far ?_ NB101_106.out _; (with_reducible repeat (first | refine blk_drewN ?_ _ | refine blk_drew ?_ | refine blk_alloc ?_ _)); exact BK101.out) hg (by simp [Value.ownBlock])); have n1_ := Aside0.mk (blk_grown (g := gb102) (o := .cells #[.slice none 0 0, .slice none 0 0, .slice none 0 0] 71 (0, 0)) (by (with_reducible repeat (first | refine blk_drewN ?_ _ | refine blk_drew ?_ | refine blk_alloc ?_ _)); refine blk_far ?_ NB102_106.out _; (with_reducible repeat (first | refine blk_drewN ?_ _ | refine blk_drew ?_ | refine blk_alloc ?_ _)); refine blk_far ?_ NB102_106.out _; (with_reducible repeat (first | refine blk_drewN ?_ _ | refine blk_drew ?_ | refine blk_alloc ?_ _)); refine blk_far ?_ NB102_106.out _; (with_reducible repeat (first | refine blk_drewN ?_ _ | refine blk_drew ?_ | refine blk_alloc ?_ _)); exact BK102.out) hg (by simp [Value.ownBlock])); have n2_ := Aside0.mk (Kd.R_grown (by (with_reducible repeat (first | apply Kd.R_alloc | apply Kd.R_drewN | apply Kd.R_drew)); exact (Kd.R_mono (Kd.R_far (p := ⟨gb106, 2, none⟩) (Kd.R_far (p := ⟨gb106, 1, none⟩) (Kd.R_far (p := ⟨gb106, 0, none⟩) (Kd.R_types HO105.out BK106.out (by decide)) (fun _ hk => hk.2) (.slice Ao11 y103.length co11)) (fun _ hk => hk.2) (.slice none 0 0)) (fun _ hk => hk.2) (.slice none 0 0)) (fun _ h_ => h_.1))) hg (fun _ _ => by simp [Value.ownBlock])); have n3_ := Aside0.mk (blk_grown (g := gb106) (o := .cells #[.slice Ao11 y103.length co11, .slice none 0 0, .slice none 0 0] 71 (0, 0)) (by (with_reducible repeat (first | refine blk_drewN ?_ _ | refine blk_drew ?_ | refine blk_alloc ?_ _)); refine blk_put (cs := #[.slice Ao11 y103.length co11, .slice none 0 0, .slice none 0 0]) ?_ 2 _ rfl; (with_reducible repeat (first | refine blk_drewN ?_ _ | refine blk_drew ?_ | refine blk_alloc ?_ _)); refine blk_put (cs := #[.slice Ao11 y103.length co11, .slice none 0 0, .slice none 0 0]) ?_ 1 _ rfl; (with_reducible repeat (first | refine blk_drewN ?_ _ | refine blk_drew ?_ | refine blk_alloc ?_ _)); refine blk_put (cs := #[.slice none 0 0, .slice none 0 0, .slice none 0 0]) ?_ 0 _ rfl; (with_reducible repeat (first | refine blk_drewN ?_ _ | refine blk_drew ?_ | refine blk_alloc ?_ _)); exact BK106.out) hg (by simp [Value.ownBlock])); have n4_ := Aside0.mk (hb); have n5_ := Aside0.mk (ho); clear BK101; clear BK102; clear HO105; clear BK106; clear HB; have BK101 := n0_; have BK102 := n1_; have HO105 := n2_; have BK106 := n3_; have HB := n4_; have HO109 := n5_; clear n0_ n1_ n2_ n3_ n4_ n5_; clear ho hb hg hat; obtain ⟨Ao24, co24, eo24⟩ := Kd.R_slice HO109.out; subst eo24; have hcz25_0 : w23.cell? ⟨gb106, 0, none⟩ = some (.slice Ao11 y103.length co11) := (blk_cell BK106.out 0).trans rfl; have hcz25_1 : w23.cell? ⟨gb106, 1, none⟩ = some (.slice none 0 0) := (blk_cell BK106.out 1).trans rfl; have hcz25_2 : w23.cell? ⟨gb106, 2, none⟩ = some (.slice none 0 0) := (blk_cell BK106.out 2).trans rfl; have hfz25_0 := blk_frozen BK106.out 0; have hfz25_1 := blk_frozen BK106.out 1; have hfz25_2 := blk_frozen BK106.out 2))
        go_meet
        case rel => exact ⟨_, (y107), (([] : List Int)), (.slice Ao24 y107.length co24), (.slice none 0 0), H', ⟨by first | omega | exact Nat.le_refl _⟩, ⟨by (with_reducible repeat (first | apply Kd.R_alloc | apply Kd.R_drewN | apply Kd.R_drew)); exact Kd.R_mono (Kd.R_far (p := ⟨gb106, 1, none⟩) (Kd.R_types HO105.out BK106.out (by decide)) (fun _ hk => hk.2) (.slice Ao24 y107.length co24)) (fun _ hk => (by simp [Value.ownBlock]))⟩, ⟨by (with_reducible repeat (first | apply Kd.R_alloc | apply Kd.R_drewN | apply Kd.R_drew)); exact Kd.R_mono (Kd.R_far (p := ⟨gb106, 1, none⟩) (Kd.R_types HO109.out BK106.out (by decide)) (fun _ hk => hk.2) (.slice Ao24 y107.length co24)) (fun _ hk => hk.1)⟩, ⟨by first | exact Kd.R_nil _ _ _ _ _ | exact Kd.N_nil _ _ _ _ _ | exact Kd.V_nil _ _ _ _ _ | exact Kd.Q_nil _ _ _ _ _ | exact Kd.S_nil _ _ _ _ _⟩, ⟨by (with_reducible repeat (first | refine blk_drewN ?_ _ | refine blk_drew ?_ | refine blk_alloc ?_ _)); refine blk_far ?_ NB101_106.out _; (with_reducible repeat (first | refine blk_drewN ?_ _ | refine blk_drew ?_ | refine blk_alloc ?_ _)); exact BK101.out⟩, ⟨by (with_reducible repeat (first | refine blk_drewN ?_ _ | refine blk_drew ?_ | refine blk_alloc ?_ _)); refine blk_far ?_ NB102_106.out _; (with_reducible repeat (first | refine blk_drewN ?_ _ | refine blk_drew ?_ | refine blk_alloc ?_ _)); exact BK102.out⟩, ⟨by (with_reducible repeat (first | refine blk_drewN ?_ _ | refine blk_drew ?_ | refine blk_alloc ?_ _)); refine blk_put (cs := #[.slice Ao11 y103.length co11, .slice none 0 0, .slice none 0 0]) ?_ 1 _ rfl; (with_reducible repeat (first | refine blk_drewN ?_ _ | refine blk_drew ?_ | refine blk_alloc ?_ _)); exact BK106.out⟩, ⟨by repeat (first | (with_reducible first | exact HB.out | apply below_alloc | apply pw_below_drewN | apply below_drew1 | refine below_set ?_ GE101.out | refine below_set ?_ GE102.out | refine below_set ?_ GE106.out) | exact HB.out)⟩⟩
      · rw [if_neg c17] at H
        exact absurd H (by simp)
    · replace c16 := Bool.eq_false_iff.mpr c16
      subst c16
      have H1 : (if ([] : List Int).length < 17592186044416 then (impl_regionInside.j0 k l0 false a1_0 a1_1 y103 ([] : List (S64)) (([] : List Int) ++ [a1_1])) else (none)) = some (r1, r2, r3) := by rw [if_neg (show ¬ (false = true) by decide)] at H; exact H
      clear H
      have H := H1
      clear H1
      by_cases c26 : ([] : List Int).length < 17592186044416
      · rw [if_pos c26] at H
        have LMc26 := Aside0.mk c26
        clear c26
        obtain ⟨y110, hy110⟩ : ∃ y_ : List Int, y_ = (([] : List Int) ++ [a1_1]) := ⟨_, rfl⟩
        replace H : (impl_regionInside.j0 k l0 false a1_0 a1_1 y103 ([] : List (S64)) y110) = some (r1, r2, r3) := by first | (rw [hy110]; with_reducible exact H) | (have H2_ := (Option.bind_some _ _).symm.trans H; rw [hy110]; with_reducible exact H2_) | (have H2_ := (Option.bind_some _ _).symm.trans H; with_reducible exact H2_) | with_reducible exact H | (rw [hy110]; exact H) | exact H
        have Ny110 := Aside0.mk hy110
        clear hy110
        have H' := Aside0.mk H
        clear H
        have hnb27 := NB106_101.out
        have hnc27 := NB101_106.out
        have hnb28 := NB106_102.out
        have hnc28 := NB102_106.out
        have hcz29_0 : w12.cell? ⟨gb106, 0, none⟩ = some (.slice none 0 0) := (blk_cell BK106.out 0).trans rfl
        have hcz29_1 : w12.cell? ⟨gb106, 1, none⟩ = some (.slice none 0 0) := (blk_cell BK106.out 1).trans rfl
        have hcz29_2 : w12.cell? ⟨gb106, 2, none⟩ = some (.slice none 0 0) := (blk_cell BK106.out 2).trans rfl
        have hfz29_0 := blk_frozen BK106.out 0
        have hfz29_1 := blk_frozen BK106.out 1
        have hfz29_2 := blk_frozen BK106.out 2
        have hnb30 := NB101_102.out
        have hnc30 := NB102_101.out
        have hcz31_0 : w12.cell? ⟨gb101, 0, none⟩ = some (.int .i64 a1_0) := (blk_cell BK101.out 0).trans rfl
        have hcz31_1 : w12.cell? ⟨gb101, 1, none⟩ = some (.int .i64 a1_1) := (blk_cell BK101.out 1).trans rfl
        have hfz31_0 := blk_frozen BK101.out 0
        have hfz31_1 := blk_frozen BK101.out 1
        go_wp2_with (first | ((with_reducible refine gate_builtin (b := .append) (xs := #[.tmp 24, .tmp 27]) rfl ?_); at_builtin; refine Kd.R_append (Kd.int .i64) (w0 := w) w.heap.size rfl (.tmp 24) (.tmp 27) 24 3 (.int .i64 0) 8 rfl Try.underlying24 info3 rfl (by decide) (by omega) (.slice none 0 0) ([] : List Int) a1_1 [.int .i64 a1_1] (fun k_ => some k_ ≠ (.slice Ao11 y103.length co11 : Value).ownBlock) (fun _ => False) rfl (by first | (go_simp; done) | (go_simp; rfl)) ?aP (fun _ hk => hk.elim) ?aF ?aO ?aB ?aS ?aL ?_; (case aP => exact rfl); (case aB => exact (by repeat (first | (with_reducible first | exact HB.out | apply below_alloc | apply pw_below_drewN | apply below_drew1 | refine below_set ?_ GE101.out | refine below_set ?_ GE102.out | refine below_set ?_ GE106.out) | exact HB.out))); (case aF => exact (fun k_ hk => Kd.fresh' (Kd.R_lt (by (with_reducible repeat (first | apply Kd.R_alloc | apply Kd.R_drewN | apply Kd.R_drew)); exact (Kd.R_mono (Kd.R_far (p := ⟨gb106, 2, none⟩) (Kd.R_far (p := ⟨gb106, 1, none⟩) (Kd.R_far (p := ⟨gb106, 0, none⟩) (Kd.R_types HO105.out BK106.out (by decide)) (fun _ hk => hk.2) (.slice Ao11 y103.length co11)) (fun _ hk => hk.2) (.slice none 0 0)) (fun _ hk => hk.2) (.slice none 0 0)) (fun _ h_ => h_.1)))) k_ hk)); (case aO => exact ((Kd.R_nil _ _ _ _ (fun k_ => some k_ ≠ (.slice Ao11 y103.length co11 : Value).ownBlock)))); (case aS => exact (below_size (by repeat (first | (with_reducible first | exact HB.out | apply below_alloc | apply pw_below_drewN | apply below_drew1 | refine below_set ?_ GE101.out | refine below_set ?_ GE102.out | refine below_set ?_ GE106.out) | exact HB.out)))); (case aL => have := LMc26.out; omega); intro v111 w32 ho hb hg hat; rw [← Ny110.out] at ho; have n0_ := Aside0.mk (blk_grown (g := gb101) (o := .cells #[.int .i64 a1_0, .int .i64 a1_1] 64 (0, 0)) (by (with_reducible repeat (first | refine blk_drewN ?_ _ | refine blk_drew ?_ | refine blk_alloc ?_ _)); refine blk_far ?_ NB101_106.out _; (with_reducible repeat (first | refine blk_drewN ?_ _ | refine blk_drew ?_ | refine blk_alloc ?_ _)); refine blk_far ?_ NB101_106.out _; (with_reducible repeat (first | refine blk_drewN ?_ _ | refine blk_drew ?_ | refine blk_alloc ?_ _)); refine blk_far ?_ NB101_106.out _; (with_reducible repeat (first | refine blk_drewN ?_ _ | refine blk_drew ?_ | refine blk_alloc ?_ _)); exact BK101.out) hg (by simp [Value.ownBlock])); have n1_ := Aside0.mk (blk_grown (g := gb102) (o := .cells #[.slice none 0 0, .slice none 0 0, .slice none 0 0] 71 (0, 0)) (by (with_reducible repeat (first | refine blk_drewN ?_ _ | refine blk_drew ?_ | refine blk_alloc ?_ _)); refine blk_far ?_ NB102_106.out _; (with_reducible repeat (first | refine blk_drewN ?_ _ | refine blk_drew ?_ | refine blk_alloc ?_ _)); refine blk_far ?_ NB102_106.out _; (with_reducible repeat (first | refine blk_drewN ?_ _ | refine blk_drew ?_ | refine blk_alloc ?_ _)); refine blk_far ?_ NB102_106.out _; (with_reducible repeat (first | refine blk_drewN ?_ _ | refine blk_drew ?_ | refine blk_alloc ?_ _)); exact BK102.out) hg (by simp [Value.ownBlock])); have n2_ := Aside0.mk (Kd.R_after (Kd.R_apart_nil (by (with_reducible repeat (first | apply Kd.R_alloc | apply Kd.R_drewN | apply Kd.R_drew)); exact (Kd.R_mono (Kd.R_far (p := ⟨gb106, 2, none⟩) (Kd.R_far (p := ⟨gb106, 1, none⟩) (Kd.R_far (p := ⟨gb106, 0, none⟩) (Kd.R_types HO105.out BK106.out (by decide)) (fun _ hk => hk.2) (.slice Ao11 y103.length co11)) (fun _ hk => hk.2) (.slice none 0 0)) (fun _ hk => hk.2) (.slice none 0 0)) (fun _ h_ => h_.1)))) hg hat); have n3_ := Aside0.mk (blk_grown (g := gb106) (o := .cells #[.slice Ao11 y103.length co11, .slice none 0 0, .slice none 0 0] 71 (0, 0)) (by (with_reducible repeat (first | refine blk_drewN ?_ _ | refine blk_drew ?_ | refine blk_alloc ?_ _)); refine blk_put (cs := #[.slice Ao11 y103.length co11, .slice none 0 0, .slice none 0 0]) ?_ 2 _ rfl; (with_reducible repeat (first | refine blk_drewN ?_ _ | refine blk_drew ?_ | refine blk_alloc ?_ _)); refine blk_put (cs := #[.slice Ao11 y103.length co11, .slice none 0 0, .slice none 0 0]) ?_ 1 _ rfl; (with_reducible repeat (first | refine blk_drewN ?_ _ | refine blk_drew ?_ | refine blk_alloc ?_ _)); refine blk_put (cs := #[.slice none 0 0, .slice none 0 0, .slice none 0 0]) ?_ 0 _ rfl; (with_reducible repeat (first | refine blk_drewN ?_ _ | refine blk_drew ?_ | refine blk_alloc ?_ _)); exact BK106.out) hg (by simp [Value.ownBlock])); have n4_ := Aside0.mk (hb); have n5_ := Aside0.mk (ho); clear BK101; clear BK102; clear HO105; clear BK106; clear HB; have BK101 := n0_; have BK102 := n1_; have HO105 := n2_; have BK106 := n3_; have HB := n4_; have HO112 := n5_; clear n0_ n1_ n2_ n3_ n4_ n5_; clear ho hb hg hat; obtain ⟨Ao33, co33, eo33⟩ := Kd.R_slice HO112.out; subst eo33; have hcz34_0 : w32.cell? ⟨gb106, 0, none⟩ = some (.slice Ao11 y103.length co11) := (blk_cell BK106.out 0).trans rfl; have hcz34_1 : w32.cell? ⟨gb106, 1, none⟩ = some (.slice none 0 0) := (blk_cell BK106.out 1).trans rfl; have hcz34_2 : w32.cell? ⟨gb106, 2, none⟩ = some (.slice none 0 0) := (blk_cell BK106.out 2).trans rfl; have hfz34_0 := blk_frozen BK106.out 0; have hfz34_1 := blk_frozen BK106.out 1; have hfz34_2 := blk_frozen BK106.out 2))
        go_meet
        case rel => exact ⟨_, (([] : List (S64))), (y110), (.slice none 0 0), (.slice Ao33 y110.length co33), H', ⟨by first | omega | exact Nat.le_refl _⟩, ⟨by (with_reducible repeat (first | apply Kd.R_alloc | apply Kd.R_drewN | apply Kd.R_drew)); exact Kd.R_mono (Kd.R_far (p := ⟨gb106, 2, none⟩) (Kd.R_types HO105.out BK106.out (by decide)) (fun _ hk => hk.2) (.slice Ao33 y110.length co33)) (fun _ hk => hk.1.2)⟩, ⟨by first | exact Kd.R_nil _ _ _ _ _ | exact Kd.N_nil _ _ _ _ _ | exact Kd.V_nil _ _ _ _ _ | exact Kd.Q_nil _ _ _ _ _ | exact Kd.S_nil _ _ _ _ _⟩, ⟨by (with_reducible repeat (first | apply Kd.R_alloc | apply Kd.R_drewN | apply Kd.R_drew)); exact Kd.R_mono (Kd.R_far (p := ⟨gb106, 2, none⟩) (Kd.R_types HO112.out BK106.out (by decide)) (fun _ hk => hk.2) (.slice Ao33 y110.length co33)) (fun _ hk => hk.1)⟩, ⟨by (with_reducible repeat (first | refine blk_drewN ?_ _ | refine blk_drew ?_ | refine blk_alloc ?_ _)); refine blk_far ?_ NB101_106.out _; (with_reducible repeat (first | refine blk_drewN ?_ _ | refine blk_drew ?_ | refine blk_alloc ?_ _)); exact BK101.out⟩, ⟨by (with_reducible repeat (first | refine blk_drewN ?_ _ | refine blk_drew ?_ | refine blk_alloc ?_ _)); refine blk_far ?_ NB102_106.out _; (with_reducible repeat (first | refine blk_drewN ?_ _ | refine blk_drew ?_ | refine blk_alloc ?_ _)); exact BK102.out⟩, ⟨by (with_reducible repeat (first | refine blk_drewN ?_ _ | refine blk_drew ?_ | refine blk_alloc ?_ _)); refine blk_put (cs := #[.slice Ao11 y103.length co11, .slice none 0 0, .slice none 0 0]) ?_ 2 _ rfl; (with_reducible repeat (first | refine blk_drewN ?_ _ | refine blk_drew ?_ | refine blk_alloc ?_ _)); exact BK106.out⟩, ⟨by repeat (first | (with_reducible first | exact HB.out | apply below_alloc | apply pw_below_drewN | apply below_drew1 | refine below_set ?_ GE101.out | refine below_set ?_ GE102.out | refine below_set ?_ GE106.out) | exact HB.out)⟩⟩
      · rw [if_neg c26] at H
        exact absurd H (by simp)
  case rest =>
    clear HC4
    try clear c1
    try clear c2
    try clear p2
    try clear c3
    try clear c7
    try clear c10
    try clear c13
    try clear c14
    try clear c16
    try clear c17
    try clear c18
    try clear c19
    try clear c21
    try clear c26
    try clear c27
    try clear c28
    try clear c30
    try clear hcz15_0
    try clear hcz15_1
    try clear hcz15_2
    try clear hcz20_0
    try clear hcz20_1
    try clear hcz20_2
    try clear hcz22_0
    try clear hcz22_1
    try clear hcz25_0
    try clear hcz25_1
    try clear hcz25_2
    try clear hcz29_0
    try clear hcz29_1
    try clear hcz29_2
    try clear hcz31_0
    try clear hcz31_1
    try clear hcz34_0
    try clear hcz34_1
    try clear hcz34_2
    try clear hcz8_0
    try clear hcz8_1
    try clear hfz15_0
    try clear hfz15_1
    try clear hfz15_2
    try clear hfz20_0
    try clear hfz20_1
    try clear hfz20_2
    try clear hfz22_0
    try clear hfz22_1
    try clear hfz25_0
    try clear hfz25_1
    try clear hfz25_2
    try clear hfz29_0
    try clear hfz29_1
    try clear hfz29_2
    try clear hfz31_0
    try clear hfz31_1
    try clear hfz34_0
    try clear hfz34_1
    try clear hfz34_2
    try clear hfz8_0
    try clear hfz8_1
    obtain ⟨kq, x107001_3, x107002_3, u107001, u107002, HA, HJ3, HO_107000, HO_107001, HO_107002, BK101, BK102, BK106, HB⟩ := hcut
    cases kq with
    | zero => exact absurd HA.out (by simp [impl_regionInside.j0])
    | succ kj3 =>
      have H := HA.out
      clear HA
      simp only [impl_regionInside.j0] at H
      have H' := Aside0.mk H
      clear H
      have hnb35 := NB101_102.out
      have hnc35 := NB102_101.out
      have hnb36 := NB101_106.out
      have hnc36 := NB106_101.out
      have hcz37_0 : wc.cell? ⟨gb101, 0, none⟩ = some (.int .i64 a1_0) := (blk_cell BK101.out 0).trans rfl
      have hcz37_1 : wc.cell? ⟨gb101, 1, none⟩ = some (.int .i64 a1_1) := (blk_cell BK101.out 1).trans rfl
      have hfz37_0 := blk_frozen BK101.out 0
      have hfz37_1 := blk_frozen BK101.out 1
      go_wp2
      go_loopg [8] kj3 (fun kq v8 w' => ∃ (x8_2 : Int) (x107000_2 : List Int) (x107001_2 : List (S64)) (x107002_2 : List Int) (u107000 : Value) (u107001 : Value) (u107002 : Value), v8 = .int .i64 x8_2 ∧ Aside0 (impl_regionInside.l0 kq l0 a2 x8_2 a1_0 a1_1 x107000_2 x107001_2 x107002_2 = some (r1, r2, r3)) ∧ Aside0 (kq ≤ kj3) ∧ Aside0 (Kd.R (Kd.int .i64) 3 w' w.heap.size (fun k_ => some k_ ≠ (u107002 : Value).ownBlock) u107000 x107000_2) ∧ Aside0 (Kd.R k64 64 w' w.heap.size (fun k_ => k_ ≠ gb101) u107001 x107001_2) ∧ Aside0 (Kd.R (Kd.int .i64) 3 w' w.heap.size (fun k_ => some k_ ≠ (u107000 : Value).ownBlock) u107002 x107002_2) ∧ Aside0 (w'.heap[gb101]? = some (.cells #[.int .i64 a1_0, .int .i64 a1_1] 64 (0, 0))) ∧ Aside0 (w'.heap[gb102]? = some (.cells #[(.slice none 0 0), (.slice none 0 0), (.slice none 0 0)] 71 (0, 0))) ∧ Aside0 (w'.heap[gb106]? = some (.cells #[u107000, u107001, u107002] 71 (0, 0))) ∧ Aside0 (Below w.heap.size w w'))
      case atStart => exact ⟨(a1_0), (y103), (x107001_3), (x107002_3), (.slice Ao11 y103.length co11), (u107001), (u107002), (by first | rfl | (simp; done) | (simp [*]; done)), H', ⟨Nat.le_refl _⟩, ⟨by (with_reducible repeat (first | apply Kd.R_alloc | apply Kd.R_drewN | apply Kd.R_drew)); exact HO_107000.out⟩, ⟨by (with_reducible repeat (first | apply Kd.R_alloc | apply Kd.R_drewN | apply Kd.R_drew)); exact HO_107001.out⟩, ⟨by (with_reducible repeat (first | apply Kd.R_alloc | apply Kd.R_drewN | apply Kd.R_drew)); exact HO_107002.out⟩, ⟨by (with_reducible repeat (first | refine blk_drewN ?_ _ | refine blk_drew ?_ | refine blk_alloc ?_ _)); exact BK101.out⟩, ⟨by (with_reducible repeat (first | refine blk_drewN ?_ _ | refine blk_drew ?_ | refine blk_alloc ?_ _)); exact BK102.out⟩, ⟨by (with_reducible repeat (first | refine blk_drewN ?_ _ | refine blk_drew ?_ | refine blk_alloc ?_ _)); exact BK106.out⟩, ⟨by repeat (first | (with_reducible first | exact HB.out | apply below_alloc | apply pw_below_drewN | apply below_drew1 | refine below_set ?_ GE101.out | refine below_set ?_ GE102.out | refine below_set ?_ GE106.out) | exact HB.out)⟩⟩
      case round =>
        clear H'
        try clear c1
        try clear c2
        try clear p2
        try clear c3
        try clear c7
        try clear c10
        try clear c13
        try clear c14
        try clear c16
        try clear c17
        try clear c18
        try clear c19
        try clear c21
        try clear c26
        try clear c27
        try clear c28
        try clear c30
        try clear c35
        try clear c36
        try clear hcz15_0
        try clear hcz15_1
        try clear hcz15_2
        try clear hcz20_0
        try clear hcz20_1
        try clear hcz20_2
        try clear hcz22_0
        try clear hcz22_1
        try clear hcz25_0
        try clear hcz25_1
        try clear hcz25_2
        try clear hcz29_0
        try clear hcz29_1
        try clear hcz29_2
        try clear hcz31_0
        try clear hcz31_1
        try clear hcz34_0
        try clear hcz34_1
        try clear hcz34_2
        try clear hcz37_0
        try clear hcz37_1
        try clear hcz8_0
        try clear hcz8_1
        try clear hfz15_0
        try clear hfz15_1
        try clear hfz15_2
        try clear hfz20_0
        try clear hfz20_1
        try clear hfz20_2
        try clear hfz22_0
        try clear hfz22_1
        try clear hfz25_0
        try clear hfz25_1
        try clear hfz25_2
        try clear hfz29_0
        try clear hfz29_1
        try clear hfz29_2
        try clear hfz31_0
        try clear hfz31_1
        try clear hfz34_0
        try clear hfz34_1
        try clear hfz34_2
        try clear hfz37_0
        try clear hfz37_1
        try clear hfz8_0
        try clear hfz8_1
        try clear p2
        obtain ⟨x8_2, x107000_2, x107001_2, x107002_2, u107000, u107001, u107002, rfl, HA, HK2, HO_107000, HO_107001, HO_107002, BK101, BK102, BK106, HB⟩ := hrel
        cases gk with
        | zero => exact absurd HA.out (by simp [impl_regionInside.l0])
        | succ k2 =>
          have H := HA.out
          clear HA
          simp only [impl_regionInside.l0] at H
          by_cases c38 : x8_2 < a1_1
          · rw [if_pos c38] at H
            have c38b0 : decide (x8_2 < a1_1) = true := decide_eq_true c38
            clear c38
            have H' := Aside0.mk H
            clear H
            have hnb39 := NB101_102.out
            have hnc39 := NB102_101.out
            have hnb40 := NB101_106.out
            have hnc40 := NB106_101.out
            have hcz41_0 : wr.cell? ⟨gb101, 0, none⟩ = some (.int .i64 a1_0) := (blk_cell BK101.out 0).trans rfl
            have hcz41_1 : wr.cell? ⟨gb101, 1, none⟩ = some (.int .i64 a1_1) := (blk_cell BK101.out 1).trans rfl
            have hfz41_0 := blk_frozen BK101.out 0
            have hfz41_1 := blk_frozen BK101.out 1
            go_wp2
            go_loopg [9, 39] k2 (fun kq v9 v39 w' => ∃ (x9_3 : Int) (x39_3 : Int), v9 = .int .i64 x9_3 ∧ v39 = .int .i64 x39_3 ∧ Aside0 (impl_regionInside.l1 kq l0 a2 x8_2 x9_3 l0 (l0.length : Int) x39_3 a1_0 a1_1 x107000_2 x107001_2 x107002_2 = some (r1, r2, r3)) ∧ Aside0 (kq ≤ k2) ∧ Aside0 (Kd.R (Kd.int .i64) 3 w' w.heap.size (fun k_ => some k_ ≠ (u107002 : Value).ownBlock) u107000 x107000_2) ∧ Aside0 (Kd.R k64 64 w' w.heap.size (fun k_ => k_ ≠ gb101) u107001 x107001_2) ∧ Aside0 (Kd.R (Kd.int .i64) 3 w' w.heap.size (fun k_ => some k_ ≠ (u107000 : Value).ownBlock) u107002 x107002_2) ∧ Aside0 (w'.heap[gb101]? = some (.cells #[.int .i64 a1_0, .int .i64 a1_1] 64 (0, 0))) ∧ Aside0 (w'.heap[gb102]? = some (.cells #[(.slice none 0 0), (.slice none 0 0), (.slice none 0 0)] 71 (0, 0))) ∧ Aside0 (w'.heap[gb106]? = some (.cells #[u107000, u107001, u107002] 71 (0, 0))) ∧ Aside0 (Below w.heap.size w w'))
            case atStart => exact ⟨(x8_2), (0), (by first | rfl | (simp; done) | (simp [*]; done)), (by first | rfl | (simp; done) | (simp [*]; done)), H', ⟨Nat.le_refl _⟩, ⟨by (with_reducible repeat (first | apply Kd.R_alloc | apply Kd.R_drewN | apply Kd.R_drew)); exact HO_107000.out⟩, ⟨by (with_reducible repeat (first | apply Kd.R_alloc | apply Kd.R_drewN | apply Kd.R_drew)); exact HO_107001.out⟩, ⟨by (with_reducible repeat (first | apply Kd.R_alloc | apply Kd.R_drewN | apply Kd.R_drew)); exact HO_107002.out⟩, ⟨by (with_reducible repeat (first | refine blk_drewN ?_ _ | refine blk_drew ?_ | refine blk_alloc ?_ _)); exact BK101.out⟩, ⟨by (with_reducible repeat (first | refine blk_drewN ?_ _ | refine blk_drew ?_ | refine blk_alloc ?_ _)); exact BK102.out⟩, ⟨by (with_reducible repeat (first | refine blk_drewN ?_ _ | refine blk_drew ?_ | refine blk_alloc ?_ _)); exact BK106.out⟩, ⟨by repeat (first | (with_reducible first | exact HB.out | apply below_alloc | apply pw_below_drewN | apply below_drew1 | refine below_set ?_ GE101.out | refine below_set ?_ GE102.out | refine below_set ?_ GE106.out) | exact HB.out)⟩⟩
            case round =>
              clear H'
              try clear c1
              try clear c2
              try clear p2
              try clear c3
              try clear c4
              try clear c7
              try clear c10
              try clear c13
              try clear c14
              try clear c16
              try clear c17
              try clear c18
              try clear c19
              try clear c21
              try clear c26
              try clear c27
              try clear c28
              try clear c30
              try clear c35
              try clear c36
              try clear c38
              try clear c38b0
              try clear c39
              try clear c40
              try clear hcz15_0
              try clear hcz15_1
              try clear hcz15_2
              try clear hcz20_0
              try clear hcz20_1
              try clear hcz20_2
              try clear hcz22_0
              try clear hcz22_1
              try clear hcz25_0
              try clear hcz25_1
              try clear hcz25_2
              try clear hcz29_0
              try clear hcz29_1
              try clear hcz29_2
              try clear hcz31_0
              try clear hcz31_1
              try clear hcz34_0
              try clear hcz34_1
              try clear hcz34_2
              try clear hcz37_0
              try clear hcz37_1
              try clear hcz41_0
              try clear hcz41_1
              try clear hcz8_0
              try clear hcz8_1
              try clear hfz15_0
              try clear hfz15_1
              try clear hfz15_2
              try clear hfz20_0
              try clear hfz20_1
              try clear hfz20_2
              try clear hfz22_0
              try clear hfz22_1
              try clear hfz25_0
              try clear hfz25_1
              try clear hfz25_2
              try clear hfz29_0
              try clear hfz29_1
              try clear hfz29_2
              try clear hfz31_0
              try clear hfz31_1
              try clear hfz34_0
              try clear hfz34_1
              try clear hfz34_2
              try clear hfz37_0
              try clear hfz37_1
              try clear hfz41_0
              try clear hfz41_1
              try clear hfz8_0
              try clear hfz8_1
              try clear p2
              obtain ⟨x9_3, x39_3, rfl, rfl, HA, HK3, HO_107000, HO_107001, HO_107002, BK101, BK102, BK106, HB⟩ := hrel
              cases gk with
              | zero => exact absurd HA.out (by simp [impl_regionInside.l1])
              | succ k3 =>
                have H := HA.out
                clear HA
                simp only [impl_regionInside.l1] at H
                by_cases c42 : x39_3 < (l0.length : Int)
                · rw [if_pos c42] at H
                  have c42b0 : decide (x39_3 < (l0.length : Int)) = true := decide_eq_true c42
                  clear c42
                  by_cases c43 : 0 ≤ x39_3
                  · rw [if_pos c43] at H
                    have c43b0 : decide (0 ≤ x39_3) = true := decide_eq_true c43
                    clear c43
                    by_cases c44 : x39_3 < (l0.length : Int)
                    · rw [if_pos c44] at H
                      have c44b0 : decide (x39_3 < (l0.length : Int)) = true := decide_eq_true c44
                      clear c44
                      by_cases c45 : ((rd_T64 l0 x39_3).f0) = x8_2
                      · rw [if_pos c45] at H
                        have c45b0 : (((rd_T64 l0 x39_3).f0) == x8_2) = true := beq_iff_eq.mpr c45
                        have c45b1 : (((rd_T64 l0 x39_3).f0) != x8_2) = false := bne_eq_false_iff_eq.mpr c45
                        clear c45
                        by_cases c46 : ((rd_T64 l0 x39_3).f1) ≤ a1_1
                        · rw [if_pos c46] at H
                          have c46b0 : decide (((rd_T64 l0 x39_3).f1) ≤ a1_1) = true := decide_eq_true c46
                          clear c46
                          by_cases c47 : ((rd_T64 l0 x39_3).f1) > x9_3
                          · rw [if_pos c47] at H
                            have c47b0 : decide (x9_3 < ((rd_T64 l0 x39_3).f1)) = true := decide_eq_true c47
                            clear c47
                            by_cases c48 : a2 = true
                            · subst c48
                              have H1 : (if ((((rd_T64 l0 x39_3).f0) == a1_0 && (((rd_T64 l0 x39_3).f1) == a1_1)) = true) then (impl_regionInside.l1 k3 l0 true x8_2 x9_3 l0 (l0.length : Int) (wrap64 (x39_3 + 1)) a1_0 a1_1 x107000_2 x107001_2 x107002_2) else (impl_regionInside.l1 k3 l0 true x8_2 ((rd_T64 l0 x39_3).f1) l0 (l0.length : Int) (wrap64 (x39_3 + 1)) a1_0 a1_1 x107000_2 x107001_2 x107002_2)) = some (r1, r2, r3) := by rw [if_pos rfl] at H; exact H
                              clear H
                              have H := H1
                              clear H1
                              by_cases c49 : ((((rd_T64 l0 x39_3).f0) == a1_0 && (((rd_T64 l0 x39_3).f1) == a1_1)) = true)
                              · rw [if_pos c49] at H
                                have c49b0 : (((rd_T64 l0 x39_3).f0) == a1_0 && (((rd_T64 l0 x39_3).f1) == a1_1)) = true := c49
                                (try (have c49b1 : decide (((rd_T64 l0 x39_3).f0) = a1_0 && (((rd_T64 l0 x39_3).f1) == a1_1)) = true := by simpa using c49))
                                (try (have c49b2 : (((rd_T64 l0 x39_3).f0) == a1_0 && (((rd_T64 l0 x39_3).f1) == a1_1)) = true := by simpa using c49))
                                clear c49
                                have H' := Aside0.mk H
                                clear H
                                have p113 : 0 ≤ (x39_3 : Int) := of_decide_eq_true (by first | (with_reducible assumption) | assumption)
                                have q113 : x39_3 < (l0.length : Int) := of_decide_eq_true (by first | (with_reducible assumption) | assumption)
                                obtain ⟨ad113, e113, hx113_0, hx113_1⟩ := at_T64 HR0.out x39_3 p113 q113
                                cases e113
                                replace hx113_0 := (HB.out.cell (World.block_lt_of_cell? w _ hx113_0)).trans hx113_0
                                replace hx113_1 := (HB.out.cell (World.block_lt_of_cell? w _ hx113_1)).trans hx113_1
                                replace p113 := eq_true p113
                                replace q113 := eq_true q113
                                go_wp2_with (first | ((with_reducible refine gate_dst (N := 11) rfl ?_); refine box_event ?hg (N := 11) ?hd (cs := #[.int .i64 0, .int .i64 0]) (t := 64) ?hr ?_; (case hd => rfl); (case hg => rfl); (case hr => first | (go_simp; done) | (go_simp; rfl)); intro gb114 hg w50 hbox hb; have n0_ := Aside0.mk (Kd.R_below (by (with_reducible repeat (first | apply Kd.R_alloc | apply Kd.R_drewN | apply Kd.R_drew)); exact HO_107000.out) hb); have n1_ := Aside0.mk (Kd.R_below (Kd.R_elderB (by (with_reducible repeat (first | apply Kd.R_alloc | apply Kd.R_drewN | apply Kd.R_drew)); exact HO_107001.out) gb114 (Nat.le_of_eq hg.symm)) hb); have n2_ := Aside0.mk (Kd.R_below (by (with_reducible repeat (first | apply Kd.R_alloc | apply Kd.R_drewN | apply Kd.R_drew)); exact HO_107002.out) hb); have n3_ := Aside0.mk (blk_below (g := gb101) (o := .cells #[.int .i64 a1_0, .int .i64 a1_1] 64 (0, 0)) (by (with_reducible repeat (first | refine blk_drewN ?_ _ | refine blk_drew ?_ | refine blk_alloc ?_ _)); exact BK101.out) hb); have n4_ := Aside0.mk (blk_below (g := gb102) (o := .cells #[.slice none 0 0, .slice none 0 0, .slice none 0 0] 71 (0, 0)) (by (with_reducible repeat (first | refine blk_drewN ?_ _ | refine blk_drew ?_ | refine blk_alloc ?_ _)); exact BK102.out) hb); have n5_ := Aside0.mk (blk_below (g := gb106) (o := .cells #[u107000, u107001, u107002] 71 (0, 0)) (by (with_reducible repeat (first | refine blk_drewN ?_ _ | refine blk_drew ?_ | refine blk_alloc ?_ _)); exact BK106.out) hb); have n6_ := Aside0.mk (below_step (by repeat (first | (with_reducible first | exact HB.out | apply below_alloc | apply pw_below_drewN | apply below_drew1 | refine below_set ?_ GE101.out | refine below_set ?_ GE102.out | refine below_set ?_ GE106.out) | exact HB.out)) hb); have n7_ := Aside0.mk (hbox); have n8_ := Aside0.mk ((by rw [hg]; exact (below_size (by repeat (first | (with_reducible first | exact HB.out | apply below_alloc | apply pw_below_drewN | apply below_drew1 | refine below_set ?_ GE101.out | refine below_set ?_ GE102.out | refine below_set ?_ GE106.out) | exact HB.out))) : w.heap.size ≤ gb114)); have n9_ := Aside0.mk ((by rw [hg]; exact (below_size (by repeat (first | (with_reducible first | exact HB.out | apply below_alloc | apply pw_below_drewN | apply below_drew1 | refine below_set ?_ GE101.out | refine below_set ?_ GE102.out | refine below_set ?_ GE106.out) | exact HB.out))) : w.heap.size ≤ gb114)); have n10_ := Aside0.mk ((by rw [hg]; exact Nat.ne_of_lt (blk_lt (g := gb101) (o := .cells #[.int .i64 a1_0, .int .i64 a1_1] 64 (0, 0)) (by (with_reducible repeat (first | refine blk_drewN ?_ _ | refine blk_drew ?_ | refine blk_alloc ?_ _)); exact BK101.out)) : gb101 ≠ gb114)); have n11_ := Aside0.mk ((by rw [hg]; exact Nat.ne_of_gt (blk_lt (g := gb101) (o := .cells #[.int .i64 a1_0, .int .i64 a1_1] 64 (0, 0)) (by (with_reducible repeat (first | refine blk_drewN ?_ _ | refine blk_drew ?_ | refine blk_alloc ?_ _)); exact BK101.out)) : gb114 ≠ gb101)); have n12_ := Aside0.mk ((by rw [hg]; exact Nat.ne_of_lt (blk_lt (g := gb102) (o := .cells #[.slice none 0 0, .slice none 0 0, .slice none 0 0] 71 (0, 0)) (by (with_reducible repeat (first | refine blk_drewN ?_ _ | refine blk_drew ?_ | refine blk_alloc ?_ _)); exact BK102.out)) : gb102 ≠ gb114)); have n13_ := Aside0.mk ((by rw [hg]; exact Nat.ne_of_gt (blk_lt (g := gb102) (o := .cells #[.slice none 0 0, .slice none 0 0, .slice none 0 0] 71 (0, 0)) (by (with_reducible repeat (first | refine blk_drewN ?_ _ | refine blk_drew ?_ | refine blk_alloc ?_ _)); exact BK102.out)) : gb114 ≠ gb102)); have n14_ := Aside0.mk ((by rw [hg]; exact Nat.ne_of_lt (blk_lt (g := gb106) (o := .cells #[u107000, u107001, u107002] 71 (0, 0)) (by (with_reducible repeat (first | refine blk_drewN ?_ _ | refine blk_drew ?_ | refine blk_alloc ?_ _)); exact BK106.out)) : gb106 ≠ gb114)); have n15_ := Aside0.mk ((by rw [hg]; exact Nat.ne_of_gt (blk_lt (g := gb106) (o := .cells #[u107000, u107001, u107002] 71 (0, 0)) (by (with_reducible repeat (first | refine blk_drewN ?_ _ | refine blk_drew ?_ | refine blk_alloc ?_ _)); exact BK106.out)) : gb114 ≠ gb106)); clear HO_107000; clear HO_107001; clear HO_107002; clear BK101; clear BK102; clear BK106; clear HB; have HO_107000 := n0_; have HO_107001 := n1_; have HO_107002 := n2_; have BK101 := n3_; have BK102 := n4_; have BK106 := n5_; have HB := n6_; have BK114 := n7_; have GW114 := n8_; have GE114 := n9_; have NB101_114 := n10_; have NB114_101 := n11_; have NB102_114 := n12_; have NB114_102 := n13_; have NB106_114 := n14_; have NB114_106 := n15_; clear n0_ n1_ n2_ n3_ n4_ n5_ n6_ n7_ n8_ n9_ n10_ n11_ n12_ n13_ n14_ n15_; clear hb hbox hg; have hnb51 := NB114_101.out; have hnc51 := NB101_114.out; have hnb52 := NB114_102.out; have hnc52 := NB102_114.out; have hnb53 := NB114_106.out; have hnc53 := NB106_114.out; have hcz54_0 : w50.cell? ⟨gb114, 0, none⟩ = some (.int .i64 0) := (blk_cell BK114.out 0).trans rfl; have hcz54_1 : w50.cell? ⟨gb114, 1, none⟩ = some (.int .i64 0) := (blk_cell BK114.out 1).trans rfl; have hfz54_0 := blk_frozen BK114.out 0; have hfz54_1 := blk_frozen BK114.out 1; have hnb55 := NB101_102.out; have hnc55 := NB102_101.out; have hnb56 := NB101_106.out; have hnc56 := NB106_101.out; have hcz57_0 : w50.cell? ⟨gb101, 0, none⟩ = some (.int .i64 a1_0) := (blk_cell BK101.out 0).trans rfl; have hcz57_1 : w50.cell? ⟨gb101, 1, none⟩ = some (.int .i64 a1_1) := (blk_cell BK101.out 1).trans rfl; have hfz57_0 := blk_frozen BK101.out 0; have hfz57_1 := blk_frozen BK101.out 1))
                                go_roundg k3
                                case measure => have := HJ3.out; have := HK2.out; have := HK3.out; omega
                                case rel => exact ⟨(x9_3), (wrap64 (x39_3 + 1)), (by first | rfl | (simp; done) | (simp [*]; done)), (by first | rfl | (simp; done) | (simp [*]; done)), H', ⟨by have := HJ3.out; have := HK2.out; have := HK3.out; omega⟩, ⟨by (with_reducible repeat (first | apply Kd.R_alloc | apply Kd.R_drewN | apply Kd.R_drew)); exact Kd.R_mono (Kd.R_far (p := ⟨gb114, 1, none⟩) (Kd.R_far (p := ⟨gb114, 0, none⟩) (Kd.R_types HO_107000.out BK114.out (by decide)) (fun _ hk => hk.2) (.int .i64 ((rd_T64 l0 x39_3).f0))) (fun _ hk => hk.2) (.int .i64 ((rd_T64 l0 x39_3).f1))) (fun _ hk => hk.1)⟩, ⟨by (with_reducible repeat (first | apply Kd.R_alloc | apply Kd.R_drewN | apply Kd.R_drew)); exact Kd.R_mono (Kd.R_far (p := ⟨gb114, 1, none⟩) (Kd.R_far (p := ⟨gb114, 0, none⟩) (Kd.R_mono HO_107001.out (fun k_ hk => (⟨hk, hk.2⟩ : _ ∧ k_ ≠ gb114))) (fun _ hk => hk.2) (.int .i64 ((rd_T64 l0 x39_3).f0))) (fun _ hk => hk.2) (.int .i64 ((rd_T64 l0 x39_3).f1))) (fun _ hk => hk.1.1)⟩, ⟨by (with_reducible repeat (first | apply Kd.R_alloc | apply Kd.R_drewN | apply Kd.R_drew)); exact Kd.R_mono (Kd.R_far (p := ⟨gb114, 1, none⟩) (Kd.R_far (p := ⟨gb114, 0, none⟩) (Kd.R_types HO_107002.out BK114.out (by decide)) (fun _ hk => hk.2) (.int .i64 ((rd_T64 l0 x39_3).f0))) (fun _ hk => hk.2) (.int .i64 ((rd_T64 l0 x39_3).f1))) (fun _ hk => hk.1)⟩, ⟨by (with_reducible repeat (first | refine blk_drewN ?_ _ | refine blk_drew ?_ | refine blk_alloc ?_ _)); refine blk_far ?_ NB101_114.out _; (with_reducible repeat (first | refine blk_drewN ?_ _ | refine blk_drew ?_ | refine blk_alloc ?_ _)); refine blk_far ?_ NB101_114.out _; (with_reducible repeat (first | refine blk_drewN ?_ _ | refine blk_drew ?_ | refine blk_alloc ?_ _)); exact BK101.out⟩, ⟨by (with_reducible repeat (first | refine blk_drewN ?_ _ | refine blk_drew ?_ | refine blk_alloc ?_ _)); refine blk_far ?_ NB102_114.out _; (with_reducible repeat (first | refine blk_drewN ?_ _ | refine blk_drew ?_ | refine blk_alloc ?_ _)); refine blk_far ?_ NB102_114.out _; (with_reducible repeat (first | refine blk_drewN ?_ _ | refine blk_drew ?_ | refine blk_alloc ?_ _)); exact BK102.out⟩, ⟨by (with_reducible repeat (first | refine blk_drewN ?_ _ | refine blk_drew ?_ | refine blk_alloc ?_ _)); refine blk_far ?_ NB106_114.out _; (with_reducible repeat (first | refine blk_drewN ?_ _ | refine blk_drew ?_ | refine blk_alloc ?_ _)); refine blk_far ?_ NB106_114.out _; (with_reducible repeat (first | refine blk_drewN ?_ _ | refine blk_drew ?_ | refine blk_alloc ?_ _)); exact BK106.out⟩, ⟨by repeat (first | (with_reducible first | exact HB.out | apply below_alloc | apply pw_below_drewN | apply below_drew1 | refine below_set ?_ GE101.out | refine below_set ?_ GE102.out | refine below_set ?_ GE106.out | refine below_set ?_ GE114.out) | exact HB.out)⟩⟩
                              · rw [if_neg c49] at H
                                have c49b0 : (((rd_T64 l0 x39_3).f0) == a1_0 && (((rd_T64 l0 x39_3).f1) == a1_1)) = false := by simpa using c49
                                (try (have c49b1 : decide (((rd_T64 l0 x39_3).f0) = a1_0 && (((rd_T64 l0 x39_3).f1) == a1_1)) = false := by simpa using c49))
                                (try (have c49b2 : (((rd_T64 l0 x39_3).f0) == a1_0 && (((rd_T64 l0 x39_3).f1) == a1_1)) = false := by simpa using c49))
                                (try (have c49b3 : ¬ (((rd_T64 l0 x39_3).f0) = a1_0 && (((rd_T64 l0 x39_3).f1) == a1_1)) := by simpa using c49))
                                clear c49
                                have H' := Aside0.mk H
                                clear H
                                have p113 : 0 ≤ (x39_3 : Int) := of_decide_eq_true (by first | (with_reducible assumption) | assumption)
                                have q113 : x39_3 < (l0.length : Int) := of_decide_eq_true (by first | (with_reducible assumption) | assumption)
                                obtain ⟨ad113, e113, hx113_0, hx113_1⟩ := at_T64 HR0.out x39_3 p113 q113
                                cases e113
                                replace hx113_0 := (HB.out.cell (World.block_lt_of_cell? w _ hx113_0)).trans hx113_0
                                replace hx113_1 := (HB.out.cell (World.block_lt_of_cell? w _ hx113_1)).trans hx113_1
                                replace p113 := eq_true p113
                                replace q113 := eq_true q113
                                go_wp2_with (first | ((with_reducible refine gate_dst (N := 11) rfl ?_); refine box_event ?hg (N := 11) ?hd (cs := #[.int .i64 0, .int .i64 0]) (t := 64) ?hr ?_; (case hd => rfl); (case hg => rfl); (case hr => first | (go_simp; done) | (go_simp; rfl)); intro gb114 hg w58 hbox hb; have n0_ := Aside0.mk (Kd.R_below (by (with_reducible repeat (first | apply Kd.R_alloc | apply Kd.R_drewN | apply Kd.R_drew)); exact HO_107000.out) hb); have n1_ := Aside0.mk (Kd.R_below (Kd.R_elderB (by (with_reducible repeat (first | apply Kd.R_alloc | apply Kd.R_drewN | apply Kd.R_drew)); exact HO_107001.out) gb114 (Nat.le_of_eq hg.symm)) hb); have n2_ := Aside0.mk (Kd.R_below (by (with_reducible repeat (first | apply Kd.R_alloc | apply Kd.R_drewN | apply Kd.R_drew)); exact HO_107002.out) hb); have n3_ := Aside0.mk (blk_below (g := gb101) (o := .cells #[.int .i64 a1_0, .int .i64 a1_1] 64 (0, 0)) (by (with_reducible repeat (first | refine blk_drewN ?_ _ | refine blk_drew ?_ | refine blk_alloc ?_ _)); exact BK101.out) hb); have n4_ := Aside0.mk (blk_below (g := gb102) (o := .cells #[.slice none 0 0, .slice none 0 0, .slice none 0 0] 71 (0, 0)) (by (with_reducible repeat (first | refine blk_drewN ?_ _ | refine blk_drew ?_ | refine blk_alloc ?_ _)); exact BK102.out) hb); have n5_ := Aside0.mk (blk_below (g := gb106) (o := .cells #[u107000, u107001, u107002] 71 (0, 0)) (by (with_reducible repeat (first | refine blk_drewN ?_ _ | refine blk_drew ?_ | refine blk_alloc ?_ _)); exact BK106.out) hb); have n6_ := Aside0.mk (below_step (by repeat (first | (with_reducible first | exact HB.out | apply below_alloc | apply pw_below_drewN | apply below_drew1 | refine below_set ?_ GE101.out | refine below_set ?_ GE102.out | refine below_set ?_ GE106.out) | exact HB.out)) hb); have n7_ := Aside0.mk (hbox); have n8_ := Aside0.mk ((by rw [hg]; exact (below_size (by repeat (first | (with_reducible first | exact HB.out | apply below_alloc | apply pw_below_drewN | apply below_drew1 | refine below_set ?_ GE101.out | refine below_set ?_ GE102.out | refine below_set ?_ GE106.out) | exact HB.out))) : w.heap.size ≤ gb114)); have n9_ := Aside0.mk ((by rw [hg]; exact (below_size (by repeat (first | (with_reducible first | exact HB.out | apply below_alloc | apply pw_below_drewN | apply below_drew1 | refine below_set ?_ GE101.out | refine below_set ?_ GE102.out | refine below_set ?_ GE106.out) | exact HB.out))) : w.heap.size ≤ gb114)); have n10_ := Aside0.mk ((by rw [hg]; exact Nat.ne_of_lt (blk_lt (g := gb101) (o := .cells #[.int .i64 a1_0, .int .i64 a1_1] 64 (0, 0)) (by (with_reducible repeat (first | refine blk_drewN ?_ _ | refine blk_drew ?_ | refine blk_alloc ?_ _)); exact BK101.out)) : gb101 ≠ gb114)); have n11_ := Aside0.mk ((by rw [hg]; exact Nat.ne_of_gt (blk_lt (g := gb101) (o := .cells #[.int .i64 a1_0, .int .i64 a1_1] 64 (0, 0)) (by (with_reducible repeat (first | refine blk_drewN ?_ _ | refine blk_drew ?_ | refine blk_alloc ?_ _)); exact BK101.out)) : gb114 ≠ gb101)); have n12_ := Aside0.mk ((by rw [hg]; exact Nat.ne_of_lt (blk_lt (g := gb102) (o := .cells #[.slice none 0 0, .slice none 0 0, .slice none 0 0] 71 (0, 0)) (by (with_reducible repeat (first | refine blk_drewN ?_ _ | refine blk_drew ?_ | refine blk_alloc ?_ _)); exact BK102.out)) : gb102 ≠ gb114)); have n13_ := Aside0.mk ((by rw [hg]; exact Nat.ne_of_gt (blk_lt (g := gb102) (o := .cells #[.slice none 0 0, .slice none 0 0, .slice none 0 0] 71 (0, 0)) (by (with_reducible repeat (first | refine blk_drewN ?_ _ | refine blk_drew ?_ | refine blk_alloc ?_ _)); exact BK102.out)) : gb114 ≠ gb102)); have n14_ := Aside0.mk ((by rw [hg]; exact Nat.ne_of_lt (blk_lt (g := gb106) (o := .cells #[u107000, u107001, u107002] 71 (0, 0)) (by (with_reducible repeat (first | refine blk_drewN ?_ _ | refine blk_drew ?_ | refine blk_alloc ?_ _)); exact BK106.out)) : gb106 ≠ gb114)); have n15_ := Aside0.mk ((by rw [hg]; exact Nat.ne_of_gt (blk_lt (g := gb106) (o := .cells #[u107000, u107001, u107002] 71 (0, 0)) (by (with_reducible repeat (first | refine blk_drewN ?_ _ | refine blk_drew ?_ | refine blk_alloc ?_ _)); exact BK106.out)) : gb114 ≠ gb106)); clear HO_107000; clear HO_107001; clear HO_107002; clear BK101; clear BK102; clear BK106; clear HB; have HO_107000 := n0_; have HO_107001 := n1_; have HO_107002 := n2_; have BK101 := n3_; have BK102 := n4_; have BK106 := n5_; have HB := n6_; have BK114 := n7_; have GW114 := n8_; have GE114 := n9_; have NB101_114 := n10_; have NB114_101 := n11_; have NB102_114 := n12_; have NB114_102 := n13_; have NB106_114 := n14_; have NB114_106 := n15_; clear n0_ n1_ n2_ n3_ n4_ n5_ n6_ n7_ n8_ n9_ n10_ n11_ n12_ n13_ n14_ n15_; clear hb hbox hg; have hnb59 := NB114_101.out; have hnc59 := NB101_114.out; have hnb60 := NB114_102.out; have hnc60 := NB102_114.out; have hnb61 := NB114_106.out; have hnc61 := NB106_114.out; have hcz62_0 : w58.cell? ⟨gb114, 0, none⟩ = some (.int .i64 0) := (blk_cell BK114.out 0).trans rfl; have hcz62_1 : w58.cell? ⟨gb114, 1, none⟩ = some (.int .i64 0) := (blk_cell BK114.out 1).trans rfl; have hfz62_0 := blk_frozen BK114.out 0; have hfz62_1 := blk_frozen BK114.out 1; have hnb63 := NB101_102.out; have hnc63 := NB102_101.out; have hnb64 := NB101_106.out; have hnc64 := NB106_101.out; have hcz65_0 : w58.cell? ⟨gb101, 0, none⟩ = some (.int .i64 a1_0) := (blk_cell BK101.out 0).trans rfl; have hcz65_1 : w58.cell? ⟨gb101, 1, none⟩ = some (.int .i64 a1_1) := (blk_cell BK101.out 1).trans rfl; have hfz65_0 := blk_frozen BK101.out 0; have hfz65_1 := blk_frozen BK101.out 1))
                                go_roundg k3
                                case measure => have := HJ3.out; have := HK2.out; have := HK3.out; omega
                                case rel => exact ⟨((rd_T64 l0 x39_3).f1), (wrap64 (x39_3 + 1)), (by first | rfl | (simp; done) | (simp [*]; done)), (by first | rfl | (simp; done) | (simp [*]; done)), H', ⟨by have := HJ3.out; have := HK2.out; have := HK3.out; omega⟩, ⟨by (with_reducible repeat (first | apply Kd.R_alloc | apply Kd.R_drewN | apply Kd.R_drew)); exact Kd.R_mono (Kd.R_far (p := ⟨gb114, 1, none⟩) (Kd.R_far (p := ⟨gb114, 0, none⟩) (Kd.R_types HO_107000.out BK114.out (by decide)) (fun _ hk => hk.2) (.int .i64 ((rd_T64 l0 x39_3).f0))) (fun _ hk => hk.2) (.int .i64 ((rd_T64 l0 x39_3).f1))) (fun _ hk => hk.1)⟩, ⟨by (with_reducible repeat (first | apply Kd.R_alloc | apply Kd.R_drewN | apply Kd.R_drew)); exact Kd.R_mono (Kd.R_far (p := ⟨gb114, 1, none⟩) (Kd.R_far (p := ⟨gb114, 0, none⟩) (Kd.R_mono HO_107001.out (fun k_ hk => (⟨hk, hk.2⟩ : _ ∧ k_ ≠ gb114))) (fun _ hk => hk.2) (.int .i64 ((rd_T64 l0 x39_3).f0))) (fun _ hk => hk.2) (.int .i64 ((rd_T64 l0 x39_3).f1))) (fun _ hk => hk.1.1)⟩, ⟨by (with_reducible repeat (first | apply Kd.R_alloc | apply Kd.R_drewN | apply Kd.R_drew)); exact Kd.R_mono (Kd.R_far (p := ⟨gb114, 1, none⟩) (Kd.R_far (p := ⟨gb114, 0, none⟩) (Kd.R_types HO_107002.out BK114.out (by decide)) (fun _ hk => hk.2) (.int .i64 ((rd_T64 l0 x39_3).f0))) (fun _ hk => hk.2) (.int .i64 ((rd_T64 l0 x39_3).f1))) (fun _ hk => hk.1)⟩, ⟨by (with_reducible repeat (first | refine blk_drewN ?_ _ | refine blk_drew ?_ | refine blk_alloc ?_ _)); refine blk_far ?_ NB101_114.out _; (with_reducible repeat (first | refine blk_drewN ?_ _ | refine blk_drew ?_ | refine blk_alloc ?_ _)); refine blk_far ?_ NB101_114.out _; (with_reducible repeat (first | refine blk_drewN ?_ _ | refine blk_drew ?_ | refine blk_alloc ?_ _)); exact BK101.out⟩, ⟨by (with_reducible repeat (first | refine blk_drewN ?_ _ | refine blk_drew ?_ | refine blk_alloc ?_ _)); refine blk_far ?_ NB102_114.out _; (with_reducible repeat (first | refine blk_drewN ?_ _ | refine blk_drew ?_ | refine blk_alloc ?_ _)); refine blk_far ?_ NB102_114.out _; (with_reducible repeat (first | refine blk_drewN ?_ _ | refine blk_drew ?_ | refine blk_alloc ?_ _)); exact BK102.out⟩, ⟨by (with_reducible repeat (first | refine blk_drewN ?_ _ | refine blk_drew ?_ | refine blk_alloc ?_ _)); refine blk_far ?_ NB106_114.out _; (with_reducible repeat (first | refine blk_drewN ?_ _ | refine blk_drew ?_ | refine blk_alloc ?_ _)); refine blk_far ?_ NB106_114.out _; (with_reducible repeat (first | refine blk_drewN ?_ _ | refine blk_drew ?_ | refine blk_alloc ?_ _)); exact BK106.out⟩, ⟨by repeat (first | (with_reducible first | exact HB.out | apply below_alloc | apply pw_below_drewN | apply below_drew1 | refine below_set ?_ GE101.out | refine below_set ?_ GE102.out | refine below_set ?_ GE106.out | refine below_set ?_ GE114.out) | exact HB.out)⟩⟩
                            · replace c48 := Bool.eq_false_iff.mpr c48
                              subst c48
                              have H1 : (impl_regionInside.l1 k3 l0 false x8_2 ((rd_T64 l0 x39_3).f1) l0 (l0.length : Int) (wrap64 (x39_3 + 1)) a1_0 a1_1 x107000_2 x107001_2 x107002_2) = some (r1, r2, r3) := by rw [if_neg (show ¬ (false = true) by decide)] at H; exact H
                              clear H
                              have H := H1
                              clear H1
                              have H' := Aside0.mk H
                              clear H
                              have p113 : 0 ≤ (x39_3 : Int) := of_decide_eq_true (by first | (with_reducible assumption) | assumption)
                              have q113 : x39_3 < (l0.length : Int) := of_decide_eq_true (by first | (with_reducible assumption) | assumption)
                              obtain ⟨ad113, e113, hx113_0, hx113_1⟩ := at_T64 HR0.out x39_3 p113 q113
                              cases e113
                              replace hx113_0 := (HB.out.cell (World.block_lt_of_cell? w _ hx113_0)).trans hx113_0
                              replace hx113_1 := (HB.out.cell (World.block_lt_of_cell? w _ hx113_1)).trans hx113_1
                              replace p113 := eq_true p113
                              replace q113 := eq_true q113
                              go_wp2_with (first | ((with_reducible refine gate_dst (N := 11) rfl ?_); refine box_event ?hg (N := 11) ?hd (cs := #[.int .i64 0, .int .i64 0]) (t := 64) ?hr ?_; (case hd => rfl); (case hg => rfl); (case hr => first | (go_simp; done) | (go_simp; rfl)); intro gb114 hg w66 hbox hb; have n0_ := Aside0.mk (Kd.R_below (by (with_reducible repeat (first | apply Kd.R_alloc | apply Kd.R_drewN | apply Kd.R_drew)); exact HO_107000.out) hb); have n1_ := Aside0.mk (Kd.R_below (Kd.R_elderB (by (with_reducible repeat (first | apply Kd.R_alloc | apply Kd.R_drewN | apply Kd.R_drew)); exact HO_107001.out) gb114 (Nat.le_of_eq hg.symm)) hb); have n2_ := Aside0.mk (Kd.R_below (by (with_reducible repeat (first | apply Kd.R_alloc | apply Kd.R_drewN | apply Kd.R_drew)); exact HO_107002.out) hb); have n3_ := Aside0.mk (blk_below (g := gb101) (o := .cells #[.int .i64 a1_0, .int .i64 a1_1] 64 (0, 0)) (by (with_reducible repeat (first | refine blk_drewN ?_ _ | refine blk_drew ?_ | refine blk_alloc ?_ _)); exact BK101.out) hb); have n4_ := Aside0.mk (blk_below (g := gb102) (o := .cells #[.slice none 0 0, .slice none 0 0, .slice none 0 0] 71 (0, 0)) (by (with_reducible repeat (first | refine blk_drewN ?_ _ | refine blk_drew ?_ | refine blk_alloc ?_ _)); exact BK102.out) hb); have n5_ := Aside0.mk (blk_below (g := gb106) (o := .cells #[u107000, u107001, u107002] 71 (0, 0)) (by (with_reducible repeat (first | refine blk_drewN ?_ _ | refine blk_drew ?_ | refine blk_alloc ?_ _)); exact BK106.out) hb); have n6_ := Aside0.mk (below_step (by repeat (first | (with_reducible first | exact HB.out | apply below_alloc | apply pw_below_drewN | apply below_drew1 | refine below_set ?_ GE101.out | refine below_set ?_ GE102.out | refine below_set ?_ GE106.out) | exact HB.out)) hb); have n7_ := Aside0.mk (hbox); have n8_ := Aside0.mk ((by rw [hg]; exact (below_size (by repeat (first | (with_reducible first | exact HB.out | apply below_alloc | apply pw_below_drewN | apply below_drew1 | refine below_set ?_ GE101.out | refine below_set ?_ GE102.out | refine below_set ?_ GE106.out) | exact HB.out))) : w.heap.size ≤ gb114)); have n9_ := Aside0.mk ((by rw [hg]; exact (below_size (by repeat (first | (with_reducible first | exact HB.out | apply below_alloc | apply pw_below_drewN | apply below_drew1 | refine below_set ?_ GE101.out | refine below_set ?_ GE102.out | refine below_set ?_ GE106.out) | exact HB.out))) : w.heap.size ≤ gb114)); have n10_ := Aside0.mk ((by rw [hg]; exact Nat.ne_of_lt (blk_lt (g := gb101) (o := .cells #[.int .i64 a1_0, .int .i64 a1_1] 64 (0, 0)) (by (with_reducible repeat (first | refine blk_drewN ?_ _ | refine blk_drew ?_ | refine blk_alloc ?_ _)); exact BK101.out)) : gb101 ≠ gb114)); have n11_ := Aside0.mk ((by rw [hg]; exact Nat.ne_of_gt (blk_lt (g := gb101) (o := .cells #[.int .i64 a1_0, .int .i64 a1_1] 64 (0, 0)) (by (with_reducible repeat (first | refine blk_drewN ?_ _ | refine blk_drew ?_ | refine blk_alloc ?_ _)); exact BK101.out)) : gb114 ≠ gb101)); have n12_ := Aside0.mk ((by rw [hg]; exact Nat.ne_of_lt (blk_lt (g := gb102) (o := .cells #[.slice none 0 0, .slice none 0 0, .slice none 0 0] 71 (0, 0)) (by (with_reducible repeat (first | refine blk_drewN ?_ _ | refine blk_drew ?_ | refine blk_alloc ?_ _)); exact BK102.out)) : gb102 ≠ gb114)); have n13_ := Aside0.mk ((by rw [hg]; exact Nat.ne_of_gt (blk_lt (g := gb102) (o := .cells #[.slice none 0 0, .slice none 0 0, .slice none 0 0] 71 (0, 0)) (by (with_reducible repeat (first | refine blk_drewN ?_ _ | refine blk_drew ?_ | refine blk_alloc ?_ _)); exact BK102.out)) : gb114 ≠ gb102)); have n14_ := Aside0.mk ((by rw [hg]; exact Nat.ne_of_lt (blk_lt (g := gb106) (o := .cells #[u107000, u107001, u107002] 71 (0, 0)) (by (with_reducible repeat (first | refine blk_drewN ?_ _ | refine blk_drew ?_ | refine blk_alloc ?_ _)); exact BK106.out)) : gb106 ≠ gb114)); have n15_ := Aside0.mk ((by rw [hg]; exact Nat.ne_of_gt (blk_lt (g := gb106) (o := .cells #[u107000, u107001, u107002] 71 (0, 0)) (by (with_reducible repeat (first | refine blk_drewN ?_ _ | refine blk_drew ?_ | refine blk_alloc ?_ _)); exact BK106.out)) : gb114 ≠ gb106)); clear HO_107000; clear HO_107001; clear HO_107002; clear BK101; clear BK102; clear BK106; clear HB; have HO_107000 := n0_; have HO_107001 := n1_; have HO_107002 := n2_; have BK101 := n3_; have BK102 := n4_; have BK106 := n5_; have HB := n6_; have BK114 := n7_; have GW114 := n8_; have GE114 := n9_; have NB101_114 := n10_; have NB114_101 := n11_; have NB102_114 := n12_; have NB114_102 := n13_; have NB106_114 := n14_; have NB114_106 := n15_; clear n0_ n1_ n2_ n3_ n4_ n5_ n6_ n7_ n8_ n9_ n10_ n11_ n12_ n13_ n14_ n15_; clear hb hbox hg; have hnb67 := NB114_101.out; have hnc67 := NB101_114.out; have hnb68 := NB114_102.out; have hnc68 := NB102_114.out; have hnb69 := NB114_106.out; have hnc69 := NB106_114.out; have hcz70_0 : w66.cell? ⟨gb114, 0, none⟩ = some (.int .i64 0) := (blk_cell BK114.out 0).trans rfl; have hcz70_1 : w66.cell? ⟨gb114, 1, none⟩ = some (.int .i64 0) := (blk_cell BK114.out 1).trans rfl; have hfz70_0 := blk_frozen BK114.out 0; have hfz70_1 := blk_frozen BK114.out 1; have hnb71 := NB101_102.out; have hnc71 := NB102_101.out; have hnb72 := NB101_106.out; have hnc72 := NB106_101.out; have hcz73_0 : w66.cell? ⟨gb101, 0, none⟩ = some (.int .i64 a1_0) := (blk_cell BK101.out 0).trans rfl; have hcz73_1 : w66.cell? ⟨gb101, 1, none⟩ = some (.int .i64 a1_1) := (blk_cell BK101.out 1).trans rfl; have hfz73_0 := blk_frozen BK101.out 0; have hfz73_1 := blk_frozen BK101.out 1))
                              go_roundg k3
                              case measure => have := HJ3.out; have := HK2.out; have := HK3.out; omega
                              case rel => exact ⟨((rd_T64 l0 x39_3).f1), (wrap64 (x39_3 + 1)), (by first | rfl | (simp; done) | (simp [*]; done)), (by first | rfl | (simp; done) | (simp [*]; done)), H', ⟨by have := HJ3.out; have := HK2.out; have := HK3.out; omega⟩, ⟨by (with_reducible repeat (first | apply Kd.R_alloc | apply Kd.R_drewN | apply Kd.R_drew)); exact Kd.R_mono (Kd.R_far (p := ⟨gb114, 1, none⟩) (Kd.R_far (p := ⟨gb114, 0, none⟩) (Kd.R_types HO_107000.out BK114.out (by decide)) (fun _ hk => hk.2) (.int .i64 ((rd_T64 l0 x39_3).f0))) (fun _ hk => hk.2) (.int .i64 ((rd_T64 l0 x39_3).f1))) (fun _ hk => hk.1)⟩, ⟨by (with_reducible repeat (first | apply Kd.R_alloc | apply Kd.R_drewN | apply Kd.R_drew)); exact Kd.R_mono (Kd.R_far (p := ⟨gb114, 1, none⟩) (Kd.R_far (p := ⟨gb114, 0, none⟩) (Kd.R_mono HO_107001.out (fun k_ hk => (⟨hk, hk.2⟩ : _ ∧ k_ ≠ gb114))) (fun _ hk => hk.2) (.int .i64 ((rd_T64 l0 x39_3).f0))) (fun _ hk => hk.2) (.int .i64 ((rd_T64 l0 x39_3).f1))) (fun _ hk => hk.1.1)⟩, ⟨by (with_reducible repeat (first | apply Kd.R_alloc | apply Kd.R_drewN | apply Kd.R_drew)); exact Kd.R_mono (Kd.R_far (p := ⟨gb114, 1, none⟩) (Kd.R_far (p := ⟨gb114, 0, none⟩) (Kd.R_types HO_107002.out BK114.out (by decide)) (fun _ hk => hk.2) (.int .i64 ((rd_T64 l0 x39_3).f0))) (fun _ hk => hk.2) (.int .i64 ((rd_T64 l0 x39_3).f1))) (fun _ hk => hk.1)⟩, ⟨by (with_reducible repeat (first | refine blk_drewN ?_ _ | refine blk_drew ?_ | refine blk_alloc ?_ _)); refine blk_far ?_ NB101_114.out _; (with_reducible repeat (first | refine blk_drewN ?_ _ | refine blk_drew ?_ | refine blk_alloc ?_ _)); refine blk_far ?_ NB101_114.out _; (with_reducible repeat (first | refine blk_drewN ?_ _ | refine blk_drew ?_ | refine blk_alloc ?_ _)); exact BK101.out⟩, ⟨by (with_reducible repeat (first | refine blk_drewN ?_ _ | refine blk_drew ?_ | refine blk_alloc ?_ _)); refine blk_far ?_ NB102_114.out _; (with_reducible repeat (first | refine blk_drewN ?_ _ | refine blk_drew ?_ | refine blk_alloc ?_ _)); refine blk_far ?_ NB102_114.out _; (with_reducible repeat (first | refine blk_drewN ?_ _ | refine blk_drew ?_ | refine blk_alloc ?_ _)); exact BK102.out⟩, ⟨by (with_reducible repeat (first | refine blk_drewN ?_ _ | refine blk_drew ?_ | refine blk_alloc ?_ _)); refine blk_far ?_ NB106_114.out _; (with_reducible repeat (first | refine blk_drewN ?_ _ | refine blk_drew ?_ | refine blk_alloc ?_ _)); refine blk_far ?_ NB106_114.out _; (with_reducible repeat (first | refine blk_drewN ?_ _ | refine blk_drew ?_ | refine blk_alloc ?_ _)); exact BK106.out⟩, ⟨by repeat (first | (with_reducible first | exact HB.out | apply below_alloc | apply pw_below_drewN | apply below_drew1 | refine below_set ?_ GE101.out | refine below_set ?_ GE102.out | refine below_set ?_ GE106.out | refine below_set ?_ GE114.out) | exact HB.out)⟩⟩
                          · rw [if_neg c47] at H
                            have c47b0 : decide (x9_3 < ((rd_T64 l0 x39_3).f1)) = false := decide_eq_false c47
                            clear c47
                            have H' := Aside0.mk H
                            clear H
                            have p113 : 0 ≤ (x39_3 : Int) := of_decide_eq_true (by first | (with_reducible assumption) | assumption)
                            have q113 : x39_3 < (l0.length : Int) := of_decide_eq_true (by first | (with_reducible assumption) | assumption)
                            obtain ⟨ad113, e113, hx113_0, hx113_1⟩ := at_T64 HR0.out x39_3 p113 q113
                            cases e113
                            replace hx113_0 := (HB.out.cell (World.block_lt_of_cell? w _ hx113_0)).trans hx113_0
                            replace hx113_1 := (HB.out.cell (World.block_lt_of_cell? w _ hx113_1)).trans hx113_1
                            replace p113 := eq_true p113
                            replace q113 := eq_true q113
                            go_wp2_with (first | ((with_reducible refine gate_dst (N := 11) rfl ?_); refine box_event ?hg (N := 11) ?hd (cs := #[.int .i64 0, .int .i64 0]) (t := 64) ?hr ?_; (case hd => rfl); (case hg => rfl); (case hr => first | (go_simp; done) | (go_simp; rfl)); intro gb114 hg w74 hbox hb; have n0_ := Aside0.mk (Kd.R_below (by (with_reducible repeat (first | apply Kd.R_alloc | apply Kd.R_drewN | apply Kd.R_drew)); exact HO_107000.out) hb); have n1_ := Aside0.mk (Kd.R_below (Kd.R_elderB (by (with_reducible repeat (first | apply Kd.R_alloc | apply Kd.R_drewN | apply Kd.R_drew)); exact HO_107001.out) gb114 (Nat.le_of_eq hg.symm)) hb); have n2_ := Aside0.mk (Kd.R_below (by (with_reducible repeat (first | apply Kd.R_alloc | apply Kd.R_drewN | apply Kd.R_drew)); exact HO_107002.out) hb); have n3_ := Aside0.mk (blk_below (g := gb101) (o := .cells #[.int .i64 a1_0, .int .i64 a1_1] 64 (0, 0)) (by (with_reducible repeat (first | refine blk_drewN ?_ _ | refine blk_drew ?_ | refine blk_alloc ?_ _)); exact BK101.out) hb); have n4_ := Aside0.mk (blk_below (g := gb102) (o := .cells #[.slice none 0 0, .slice none 0 0, .slice none 0 0] 71 (0, 0)) (by (with_reducible repeat (first | refine blk_drewN ?_ _ | refine blk_drew ?_ | refine blk_alloc ?_ _)); exact BK102.out) hb); have n5_ := Aside0.mk (blk_below (g := gb106) (o := .cells #[u107000, u107001, u107002] 71 (0, 0)) (by (with_reducible repeat (first | refine blk_drewN ?_ _ | refine blk_drew ?_ | refine blk_alloc ?_ _)); exact BK106.out) hb); have n6_ := Aside0.mk (below_step (by repeat (first | (with_reducible first | exact HB.out | apply below_alloc | apply pw_below_drewN | apply below_drew1 | refine below_set ?_ GE101.out | refine below_set ?_ GE102.out | refine below_set ?_ GE106.out) | exact HB.out)) hb); have n7_ := Aside0.mk (hbox); have n8_ := Aside0.mk ((by rw [hg]; exact (below_size (by repeat (first | (with_reducible first | exact HB.out | apply below_alloc | apply pw_below_drewN | apply below_drew1 | refine below_set ?_ GE101.out | refine below_set ?_ GE102.out | refine below_set ?_ GE106.out) | exact HB.out))) : w.heap.size ≤ gb114)); have n9_ := Aside0.mk ((by rw [hg]; exact (below_size (by repeat (first | (with_reducible first | exact HB.out | apply below_alloc | apply pw_below_drewN | apply below_drew1 | refine below_set ?_ GE101.out | refine below_set ?_ GE102.out | refine below_set ?_ GE106.out) | exact HB.out))) : w.heap.size ≤ gb114)); have n10_ := Aside0.mk ((by rw [hg]; exact Nat.ne_of_lt (blk_lt (g := gb101) (o := .cells #[.int .i64 a1_0, .int .i64 a1_1] 64 (0, 0)) (by (with_reducible repeat (first | refine blk_drewN ?_ _ | refine blk_drew ?_ | refine blk_alloc ?_ _)); exact BK101.out)) : gb101 ≠ gb114)); have n11_ := Aside0.mk ((by rw [hg]; exact Nat.ne_of_gt (blk_lt (g := gb101) (o := .cells #[.int .i64 a1_0, .int .i64 a1_1] 64 (0, 0)) (by (with_reducible repeat (first | refine blk_drewN ?_ _ | refine blk_drew ?_ | refine blk_alloc ?_ _)); exact BK101.out)) : gb114 ≠ gb101)); have n12_ := Aside0.mk ((by rw [hg]; exact Nat.ne_of_lt (blk_lt (g := gb102) (o := .cells #[.slice none 0 0, .slice none 0 0, .slice none 0 0] 71 (0, 0)) (by (with_reducible repeat (first | refine blk_drewN ?_ _ | refine blk_drew ?_ | refine blk_alloc ?_ _)); exact BK102.out)) : gb102 ≠ gb114)); have n13_ := Aside0.mk ((by rw [hg]; exact Nat.ne_of_gt (blk_lt (g := gb102) (o := .cells #[.slice none 0 0, .slice none 0 0, .slice none 0 0] 71 (0, 0)) (by (with_reducible repeat (first | refine blk_drewN ?_ _ | refine blk_drew ?_ | refine blk_alloc ?_ _)); exact BK102.out)) : gb114 ≠ gb102)); have n14_ := Aside0.mk ((by rw [hg]; exact Nat.ne_of_lt (blk_lt (g := gb106) (o := .cells #[u107000, u107001, u107002] 71 (0, 0)) (by (with_reducible repeat (first | refine blk_drewN ?_ _ | refine blk_drew ?_ | refine blk_alloc ?_ _)); exact BK106.out)) : gb106 ≠ gb114)); have n15_ := Aside0.mk ((by rw [hg]; exact Nat.ne_of_gt (blk_lt (g := gb106) (o := .cells #[u107000, u107001, u107002] 71 (0, 0)) (by (with_reducible repeat (first | refine blk_drewN ?_ _ | refine blk_drew ?_ | refine blk_alloc ?_ _)); exact BK106.out)) : gb114 ≠ gb106)); clear HO_107000; clear HO_107001; clear HO_107002; clear BK101; clear BK102; clear BK106; clear HB; have HO_107000 := n0_; have HO_107001 := n1_; have HO_107002 := n2_; have BK101 := n3_; have BK102 := n4_; have BK106 := n5_; have HB := n6_; have BK114 := n7_; have GW114 := n8_; have GE114 := n9_; have NB101_114 := n10_; have NB114_101 := n11_; have NB102_114 := n12_; have NB114_102 := n13_; have NB106_114 := n14_; have NB114_106 := n15_; clear n0_ n1_ n2_ n3_ n4_ n5_ n6_ n7_ n8_ n9_ n10_ n11_ n12_ n13_ n14_ n15_; clear hb hbox hg; have hnb75 := NB114_101.out; have hnc75 := NB101_114.out; have hnb76 := NB114_102.out; have hnc76 := NB102_114.out; have hnb77 := NB114_106.out; have hnc77 := NB106_114.out; have hcz78_0 : w74.cell? ⟨gb114, 0, none⟩ = some (.int .i64 0) := (blk_cell BK114.out 0).trans rfl; have hcz78_1 : w74.cell? ⟨gb114, 1, none⟩ = some (.int .i64 0) := (blk_cell BK114.out 1).trans rfl; have hfz78_0 := blk_frozen BK114.out 0; have hfz78_1 := blk_frozen BK114.out 1; have hnb79 := NB101_102.out; have hnc79 := NB102_101.out; have hnb80 := NB101_106.out; have hnc80 := NB106_101.out; have hcz81_0 : w74.cell? ⟨gb101, 0, none⟩ = some (.int .i64 a1_0) := (blk_cell BK101.out 0).trans rfl; have hcz81_1 : w74.cell? ⟨gb101, 1, none⟩ = some (.int .i64 a1_1) := (blk_cell BK101.out 1).trans rfl; have hfz81_0 := blk_frozen BK101.out 0; have hfz81_1 := blk_frozen BK101.out 1))
                            go_roundg k3
                            case measure => have := HJ3.out; have := HK2.out; have := HK3.out; omega
                            case rel => exact ⟨(x9_3), (wrap64 (x39_3 + 1)), (by first | rfl | (simp; done) | (simp [*]; done)), (by first | rfl | (simp; done) | (simp [*]; done)), H', ⟨by have := HJ3.out; have := HK2.out; have := HK3.out; omega⟩, ⟨by (with_reducible repeat (first | apply Kd.R_alloc | apply Kd.R_drewN | apply Kd.R_drew)); exact Kd.R_mono (Kd.R_far (p := ⟨gb114, 1, none⟩) (Kd.R_far (p := ⟨gb114, 0, none⟩) (Kd.R_types HO_107000.out BK114.out (by decide)) (fun _ hk => hk.2) (.int .i64 ((rd_T64 l0 x39_3).f0))) (fun _ hk => hk.2) (.int .i64 ((rd_T64 l0 x39_3).f1))) (fun _ hk => hk.1)⟩, ⟨by (with_reducible repeat (first | apply Kd.R_alloc | apply Kd.R_drewN | apply Kd.R_drew)); exact Kd.R_mono (Kd.R_far (p := ⟨gb114, 1, none⟩) (Kd.R_far (p := ⟨gb114, 0, none⟩) (Kd.R_mono HO_107001.out (fun k_ hk => (⟨hk, hk.2⟩ : _ ∧ k_ ≠ gb114))) (fun _ hk => hk.2) (.int .i64 ((rd_T64 l0 x39_3).f0))) (fun _ hk => hk.2) (.int .i64 ((rd_T64 l0 x39_3).f1))) (fun _ hk => hk.1.1)⟩, ⟨by (with_reducible repeat (first | apply Kd.R_alloc | apply Kd.R_drewN | apply Kd.R_drew)); exact Kd.R_mono (Kd.R_far (p := ⟨gb114, 1, none⟩) (Kd.R_far (p := ⟨gb114, 0, none⟩) (Kd.R_types HO_107002.out BK114.out (by decide)) (fun _ hk => hk.2) (.int .i64 ((rd_T64 l0 x39_3).f0))) (fun _ hk => hk.2) (.int .i64 ((rd_T64 l0 x39_3).f1))) (fun _ hk => hk.1)⟩, ⟨by (with_reducible repeat (first | refine blk_drewN ?_ _ | refine blk_drew ?_ | refine blk_alloc ?_ _)); refine blk_far ?_ NB101_114.out _; (with_reducible repeat (first | refine blk_drewN ?_ _ | refine blk_drew ?_ | refine blk_alloc ?_ _)); refine blk_far ?_ NB101_114.out _; (with_reducible repeat (first | refine blk_drewN ?_ _ | refine blk_drew ?_ | refine blk_alloc ?_ _)); exact BK101.out⟩, ⟨by (with_reducible repeat (first | refine blk_drewN ?_ _ | refine blk_drew ?_ | refine blk_alloc ?_ _)); refine blk_far ?_ NB102_114.out _; (with_reducible repeat (first | refine blk_drewN ?_ _ | refine blk_drew ?_ | refine blk_alloc ?_ _)); refine blk_far ?_ NB102_114.out _; (with_reducible repeat (first | refine blk_drewN ?_ _ | refine blk_drew ?_ | refine blk_alloc ?_ _)); exact BK102.out⟩, ⟨by (with_reducible repeat (first | refine blk_drewN ?_ _ | refine blk_drew ?_ | refine blk_alloc ?_ _)); refine blk_far ?_ NB106_114.out _; (with_reducible repeat (first | refine blk_drewN ?_ _ | refine blk_drew ?_ | refine blk_alloc ?_ _)); refine blk_far ?_ NB106_114.out _; (with_reducible repeat (first | refine blk_drewN ?_ _ | refine blk_drew ?_ | refine blk_alloc ?_ _)); exact BK106.out⟩, ⟨by repeat (first | (with_reducible first | exact HB.out | apply below_alloc | apply pw_below_drewN | apply below_drew1 | refine below_set ?_ GE101.out | refine below_set ?_ GE102.out | refine below_set ?_ GE106.out | refine below_set ?_ GE114.out) | exact HB.out)⟩⟩
                        · rw [if_neg c46] at H
                          have c46b0 : decide (((rd_T64 l0 x39_3).f1) ≤ a1_1) = false := decide_eq_false c46
                          clear c46
                          have H' := Aside0.mk H
                          clear H
                          have p113 : 0 ≤ (x39_3 : Int) := of_decide_eq_true (by first | (with_reducible assumption) | assumption)
                          have q113 : x39_3 < (l0.length : Int) := of_decide_eq_true (by first | (with_reducible assumption) | assumption)
                          obtain ⟨ad113, e113, hx113_0, hx113_1⟩ := at_T64 HR0.out x39_3 p113 q113
                          cases e113
                          replace hx113_0 := (HB.out.cell (World.block_lt_of_cell? w _ hx113_0)).trans hx113_0
                          replace hx113_1 := (HB.out.cell (World.block_lt_of_cell? w _ hx113_1)).trans hx113_1
                          replace p113 := eq_true p113
                          replace q113 := eq_true q113
                          go_wp2_with (first | ((with_reducible refine gate_dst (N := 11) rfl ?_); refine box_event ?hg (N := 11) ?hd (cs := #[.int .i64 0, .int .i64 0]) (t := 64) ?hr ?_; (case hd => rfl); (case hg => rfl); (case hr => first | (go_simp; done) | (go_simp; rfl)); intro gb114 hg w82 hbox hb; have n0_ := Aside0.mk (Kd.R_below (by (with_reducible repeat (first | apply Kd.R_alloc | apply Kd.R_drewN | apply Kd.R_drew)); exact HO_107000.out) hb); have n1_ := Aside0.mk (Kd.R_below (Kd.R_elderB (by (with_reducible repeat (first | apply Kd.R_alloc | apply Kd.R_drewN | apply Kd.R_drew)); exact HO_107001.out) gb114 (Nat.le_of_eq hg.symm)) hb); have n2_ := Aside0.mk (Kd.R_below (by (with_reducible repeat (first | apply Kd.R_alloc | apply Kd.R_drewN | apply Kd.R_drew)); exact HO_107002.out) hb); have n3_ := Aside0.mk (blk_below (g := gb101) (o := .cells #[.int .i64 a1_0, .int .i64 a1_1] 64 (0, 0)) (by (with_reducible repeat (first | refine blk_drewN ?_ _ | refine blk_drew ?_ | refine blk_alloc ?_ _)); exact BK101.out) hb); have n4_ := Aside0.mk (blk_below (g := gb102) (o := .cells #[.slice none 0 0, .slice none 0 0, .slice none 0 0] 71 (0, 0)) (by (with_reducible repeat (first | refine blk_drewN ?_ _ | refine blk_drew ?_ | refine blk_alloc ?_ _)); exact BK102.out) hb); have n5_ := Aside0.mk (blk_below (g := gb106) (o := .cells #[u107000, u107001, u107002] 71 (0, 0)) (by (with_reducible repeat (first | refine blk_drewN ?_ _ | refine blk_drew ?_ | refine blk_alloc ?_ _)); exact BK106.out) hb); have n6_ := Aside0.mk (below_step (by repeat (first | (with_reducible first | exact HB.out | apply below_alloc | apply pw_below_drewN | apply below_drew1 | refine below_set ?_ GE101.out | refine below_set ?_ GE102.out | refine below_set ?_ GE106.out) | exact HB.out)) hb); have n7_ := Aside0.mk (hbox); have n8_ := Aside0.mk ((by rw [hg]; exact (below_size (by repeat (first | (with_reducible first | exact HB.out | apply below_alloc | apply pw_below_drewN | apply below_drew1 | refine below_set ?_ GE101.out | refine below_set ?_ GE102.out | refine below_set ?_ GE106.out) | exact HB.out))) : w.heap.size ≤ gb114)); have n9_ := Aside0.mk ((by rw [hg]; exact (below_size (by repeat (first | (with_reducible first | exact HB.out | apply below_alloc | apply pw_below_drewN | apply below_drew1 | refine below_set ?_ GE101.out | refine below_set ?_ GE102.out | refine below_set ?_ GE106.out) | exact HB.out))) : w.heap.size ≤ gb114)); have n10_ := Aside0.mk ((by rw [hg]; exact Nat.ne_of_lt (blk_lt (g := gb101) (o := .cells #[.int .i64 a1_0, .int .i64 a1_1] 64 (0, 0)) (by (with_reducible repeat (first | refine blk_drewN ?_ _ | refine blk_drew ?_ | refine blk_alloc ?_ _)); exact BK101.out)) : gb101 ≠ gb114)); have n11_ := Aside0.mk ((by rw [hg]; exact Nat.ne_of_gt (blk_lt (g := gb101) (o := .cells #[.int .i64 a1_0, .int .i64 a1_1] 64 (0, 0)) (by (with_reducible repeat (first | refine blk_drewN ?_ _ | refine blk_drew ?_ | refine blk_alloc ?_ _)); exact BK101.out)) : gb114 ≠ gb101)); have n12_ := Aside0.mk ((by rw [hg]; exact Nat.ne_of_lt (blk_lt (g := gb102) (o := .cells #[.slice none 0 0, .slice none 0 0, .slice none 0 0] 71 (0, 0)) (by (with_reducible repeat (first | refine blk_drewN ?_ _ | refine blk_drew ?_ | refine blk_alloc ?_ _)); exact BK102.out)) : gb102 ≠ gb114)); have n13_ := Aside0.mk ((by rw [hg]; exact Nat.ne_of_gt (blk_lt (g := gb102) (o := .cells #[.slice none 0 0, .slice none 0 0, .slice none 0 0] 71 (0, 0)) (by (with_reducible repeat (first | refine blk_drewN ?_ _ | refine blk_drew ?_ | refine blk_alloc ?_ _)); exact BK102.out)) : gb114 ≠ gb102)); have n14_ := Aside0.mk ((by rw [hg]; exact Nat.ne_of_lt (blk_lt (g := gb106) (o := .cells #[u107000, u107001, u107002] 71 (0, 0)) (by (with_reducible repeat (first | refine blk_drewN ?_ _ | refine blk_drew ?_ | refine blk_alloc ?_ _)); exact BK106.out)) : gb106 ≠ gb114)); have n15_ := Aside0.mk ((by rw [hg]; exact Nat.ne_of_gt (blk_lt (g := gb106) (o := .cells #[u107000, u107001, u107002] 71 (0, 0)) (by (with_reducible repeat (first | refine blk_drewN ?_ _ | refine blk_drew ?_ | refine blk_alloc ?_ _)); exact BK106.out)) : gb114 ≠ gb106)); clear HO_107000; clear HO_107001; clear HO_107002; clear BK101; clear BK102; clear BK106; clear HB; have HO_107000 := n0_; have HO_107001 := n1_; have HO_107002 := n2_; have BK101 := n3_; have BK102 := n4_; have BK106 := n5_; have HB := n6_; have BK114 := n7_; have GW114 := n8_; have GE114 := n9_; have NB101_114 := n10_; have NB114_101 := n11_; have NB102_114 := n12_; have NB114_102 := n13_; have NB106_114 := n14_; have NB114_106 := n15_; clear n0_ n1_ n2_ n3_ n4_ n5_ n6_ n7_ n8_ n9_ n10_ n11_ n12_ n13_ n14_ n15_; clear hb hbox hg; have hnb83 := NB114_101.out; have hnc83 := NB101_114.out; have hnb84 := NB114_102.out; have hnc84 := NB102_114.out; have hnb85 := NB114_106.out; have hnc85 := NB106_114.out; have hcz86_0 : w82.cell? ⟨gb114, 0, none⟩ = some (.int .i64 0) := (blk_cell BK114.out 0).trans rfl; have hcz86_1 : w82.cell? ⟨gb114, 1, none⟩ = some (.int .i64 0) := (blk_cell BK114.out 1).trans rfl; have hfz86_0 := blk_frozen BK114.out 0; have hfz86_1 := blk_frozen BK114.out 1; have hnb87 := NB101_102.out; have hnc87 := NB102_101.out; have hnb88 := NB101_106.out; have hnc88 := NB106_101.out; have hcz89_0 : w82.cell? ⟨gb101, 0, none⟩ = some (.int .i64 a1_0) := (blk_cell BK101.out 0).trans rfl; have hcz89_1 : w82.cell? ⟨gb101, 1, none⟩ = some (.int .i64 a1_1) := (blk_cell BK101.out 1).trans rfl; have hfz89_0 := blk_frozen BK101.out 0; have hfz89_1 := blk_frozen BK101.out 1))
                          go_roundg k3
                          case measure => have := HJ3.out; have := HK2.out; have := HK3.out; omega
                          case rel => exact ⟨(x9_3), (wrap64 (x39_3 + 1)), (by first | rfl | (simp; done) | (simp [*]; done)), (by first | rfl | (simp; done) | (simp [*]; done)), H', ⟨by have := HJ3.out; have := HK2.out; have := HK3.out; omega⟩, ⟨by (with_reducible repeat (first | apply Kd.R_alloc | apply Kd.R_drewN | apply Kd.R_drew)); exact Kd.R_mono (Kd.R_far (p := ⟨gb114, 1, none⟩) (Kd.R_far (p := ⟨gb114, 0, none⟩) (Kd.R_types HO_107000.out BK114.out (by decide)) (fun _ hk => hk.2) (.int .i64 ((rd_T64 l0 x39_3).f0))) (fun _ hk => hk.2) (.int .i64 ((rd_T64 l0 x39_3).f1))) (fun _ hk => hk.1)⟩, ⟨by (with_reducible repeat (first | apply Kd.R_alloc | apply Kd.R_drewN | apply Kd.R_drew)); exact Kd.R_mono (Kd.R_far (p := ⟨gb114, 1, none⟩) (Kd.R_far (p := ⟨gb114, 0, none⟩) (Kd.R_mono HO_107001.out (fun k_ hk => (⟨hk, hk.2⟩ : _ ∧ k_ ≠ gb114))) (fun _ hk => hk.2) (.int .i64 ((rd_T64 l0 x39_3).f0))) (fun _ hk => hk.2) (.int .i64 ((rd_T64 l0 x39_3).f1))) (fun _ hk => hk.1.1)⟩, ⟨by (with_reducible repeat (first | apply Kd.R_alloc | apply Kd.R_drewN | apply Kd.R_drew)); exact Kd.R_mono (Kd.R_far (p := ⟨gb114, 1, none⟩) (Kd.R_far (p := ⟨gb114, 0, none⟩) (Kd.R_types HO_107002.out BK114.out (by decide)) (fun _ hk => hk.2) (.int .i64 ((rd_T64 l0 x39_3).f0))) (fun _ hk => hk.2) (.int .i64 ((rd_T64 l0 x39_3).f1))) (fun _ hk => hk.1)⟩, ⟨by (with_reducible repeat (first | refine blk_drewN ?_ _ | refine blk_drew ?_ | refine blk_alloc ?_ _)); refine blk_far ?_ NB101_114.out _; (with_reducible repeat (first | refine blk_drewN ?_ _ | refine blk_drew ?_ | refine blk_alloc ?_ _)); refine blk_far ?_ NB101_114.out _; (with_reducible repeat (first | refine blk_drewN ?_ _ | refine blk_drew ?_ | refine blk_alloc ?_ _)); exact BK101.out⟩, ⟨by (with_reducible repeat (first | refine blk_drewN ?_ _ | refine blk_drew ?_ | refine blk_alloc ?_ _)); refine blk_far ?_ NB102_114.out _; (with_reducible repeat (first | refine blk_drewN ?_ _ | refine blk_drew ?_ | refine blk_alloc ?_ _)); refine blk_far ?_ NB102_114.out _; (with_reducible repeat (first | refine blk_drewN ?_ _ | refine blk_drew ?_ | refine blk_alloc ?_ _)); exact BK102.out⟩, ⟨by (with_reducible repeat (first | refine blk_drewN ?_ _ | refine blk_drew ?_ | refine blk_alloc ?_ _)); refine blk_far ?_ NB106_114.out _; (with_reducible repeat (first | refine blk_drewN ?_ _ | refine blk_drew ?_ | refine blk_alloc ?_ _)); refine blk_far ?_ NB106_114.out _; (with_reducible repeat (first | refine blk_drewN ?_ _ | refine blk_drew ?_ | refine blk_alloc ?_ _)); exact BK106.out⟩, ⟨by repeat (first | (with_reducible first | exact HB.out | apply below_alloc | apply pw_below_drewN | apply below_drew1 | refine below_set ?_ GE101.out | refine below_set ?_ GE102.out | refine below_set ?_ GE106.out | refine below_set ?_ GE114.out) | exact HB.out)⟩⟩
                      · rw [if_neg c45] at H
                        have c45b0 : (((rd_T64 l0 x39_3).f0) == x8_2) = false := beq_eq_false_iff_ne.mpr c45
                        have c45b1 : (((rd_T64 l0 x39_3).f0) != x8_2) = true := bne_iff_ne.mpr c45
                        have H' := Aside0.mk H
                        clear H
                        have p113 : 0 ≤ (x39_3 : Int) := of_decide_eq_true (by first | (with_reducible assumption) | assumption)
                        have q113 : x39_3 < (l0.length : Int) := of_decide_eq_true (by first | (with_reducible assumption) | assumption)
                        obtain ⟨ad113, e113, hx113_0, hx113_1⟩ := at_T64 HR0.out x39_3 p113 q113
                        cases e113
                        replace hx113_0 := (HB.out.cell (World.block_lt_of_cell? w _ hx113_0)).trans hx113_0
                        replace hx113_1 := (HB.out.cell (World.block_lt_of_cell? w _ hx113_1)).trans hx113_1
                        replace p113 := eq_true p113
                        replace q113 := eq_true q113
                        go_wp2_with (first | ((with_reducible refine gate_dst (N := 11) rfl ?_); refine box_event ?hg (N := 11) ?hd (cs := #[.int .i64 0, .int .i64 0]) (t := 64) ?hr ?_; (case hd => rfl); (case hg => rfl); (case hr => first | (go_simp; done) | (go_simp; rfl)); intro gb114 hg w90 hbox hb; have n0_ := Aside0.mk (Kd.R_below (by (with_reducible repeat (first | apply Kd.R_alloc | apply Kd.R_drewN | apply Kd.R_drew)); exact HO_107000.out) hb); have n1_ := Aside0.mk (Kd.R_below (Kd.R_elderB (by (with_reducible repeat (first | apply Kd.R_alloc | apply Kd.R_drewN | apply Kd.R_drew)); exact HO_107001.out) gb114 (Nat.le_of_eq hg.symm)) hb); have n2_ := Aside0.mk (Kd.R_below (by (with_reducible repeat (first | apply Kd.R_alloc | apply Kd.R_drewN | apply Kd.R_drew)); exact HO_107002.out) hb); have n3_ := Aside0.mk (blk_below (g := gb101) (o := .cells #[.int .i64 a1_0, .int .i64 a1_1] 64 (0, 0)) (by (with_reducible repeat (first | refine blk_drewN ?_ _ | refine blk_drew ?_ | refine blk_alloc ?_ _)); exact BK101.out) hb); have n4_ := Aside0.mk (blk_below (g := gb102) (o := .cells #[.slice none 0 0, .slice none 0 0, .slice none 0 0] 71 (0, 0)) (by (with_reducible repeat (first | refine blk_drewN ?_ _ | refine blk_drew ?_ | refine blk_alloc ?_ _)); exact BK102.out) hb); have n5_ := Aside0.mk (blk_below (g := gb106) (o := .cells #[u107000, u107001, u107002] 71 (0, 0)) (by (with_reducible repeat (first | refine blk_drewN ?_ _ | refine blk_drew ?_ | refine blk_alloc ?_ _)); exact BK106.out) hb); have n6_ := Aside0.mk (below_step (by repeat (first | (with_reducible first | exact HB.out | apply below_alloc | apply pw_below_drewN | apply below_drew1 | refine below_set ?_ GE101.out | refine below_set ?_ GE102.out | refine below_set ?_ GE106.out) | exact HB.out)) hb); have n7_ := Aside0.mk (hbox); have n8_ := Aside0.mk ((by rw [hg]; exact (below_size (by repeat (first | (with_reducible first | exact HB.out | apply below_alloc | apply pw_below_drewN | apply below_drew1 | refine below_set ?_ GE101.out | refine below_set ?_ GE102.out | refine below_set ?_ GE106.out) | exact HB.out))) : w.heap.size ≤ gb114)); have n9_ := Aside0.mk ((by rw [hg]; exact (below_size (by repeat (first | (with_reducible first | exact HB.out | apply below_alloc | apply pw_below_drewN | apply below_drew1 | refine below_set ?_ GE101.out | refine below_set ?_ GE102.out | refine below_set ?_ GE106.out) | exact HB.out))) : w.heap.size ≤ gb114)); have n10_ := Aside0.mk ((by rw [hg]; exact Nat.ne_of_lt (blk_lt (g := gb101) (o := .cells #[.int .i64 a1_0, .int .i64 a1_1] 64 (0, 0)) (by (with_reducible repeat (first | refine blk_drewN ?_ _ | refine blk_drew ?_ | refine blk_alloc ?_ _)); exact BK101.out)) : gb101 ≠ gb114)); have n11_ := Aside0.mk ((by rw [hg]; exact Nat.ne_of_gt (blk_lt (g := gb101) (o := .cells #[.int .i64 a1_0, .int .i64 a1_1] 64 (0, 0)) (by (with_reducible repeat (first | refine blk_drewN ?_ _ | refine blk_drew ?_ | refine blk_alloc ?_ _)); exact BK101.out)) : gb114 ≠ gb101)); have n12_ := Aside0.mk ((by rw [hg]; exact Nat.ne_of_lt (blk_lt (g := gb102) (o := .cells #[.slice none 0 0, .slice none 0 0, .slice none 0 0] 71 (0, 0)) (by (with_reducible repeat (first | refine blk_drewN ?_ _ | refine blk_drew ?_ | refine blk_alloc ?_ _)); exact BK102.out)) : gb102 ≠ gb114)); have n13_ := Aside0.mk ((by rw [hg]; exact Nat.ne_of_gt (blk_lt (g := gb102) (o := .cells #[.slice none 0 0, .slice none 0 0, .slice none 0 0] 71 (0, 0)) (by (with_reducible repeat (first | refine blk_drewN ?_ _ | refine blk_drew ?_ | refine blk_alloc ?_ _)); exact BK102.out)) : gb114 ≠ gb102)); have n14_ := Aside0.mk ((by rw [hg]; exact Nat.ne_of_lt (blk_lt (g := gb106) (o := .cells #[u107000, u107001, u107002] 71 (0, 0)) (by (with_reducible repeat (first | refine blk_drewN ?_ _ | refine blk_drew ?_ | refine blk_alloc ?_ _)); exact BK106.out)) : gb106 ≠ gb114)); have n15_ := Aside0.mk ((by rw [hg]; exact Nat.ne_of_gt (blk_lt (g := gb106) (o := .cells #[u107000, u107001, u107002] 71 (0, 0)) (by (with_reducible repeat (first | refine blk_drewN ?_ _ | refine blk_drew ?_ | refine blk_alloc ?_ _)); exact BK106.out)) : gb114 ≠ gb106)); clear HO_107000; clear HO_107001; clear HO_107002; clear BK101; clear BK102; clear BK106; clear HB; have HO_107000 := n0_; have HO_107001 := n1_; have HO_107002 := n2_; have BK101 := n3_; have BK102 := n4_; have BK106 := n5_; have HB := n6_; have BK114 := n7_; have GW114 := n8_; have GE114 := n9_; have NB101_114 := n10_; have NB114_101 := n11_; have NB102_114 := n12_; have NB114_102 := n13_; have NB106_114 := n14_; have NB114_106 := n15_; clear n0_ n1_ n2_ n3_ n4_ n5_ n6_ n7_ n8_ n9_ n10_ n11_ n12_ n13_ n14_ n15_; clear hb hbox hg; have hnb91 := NB114_101.out; have hnc91 := NB101_114.out; have hnb92 := NB114_102.out; have hnc92 := NB102_114.out; have hnb93 := NB114_106.out; have hnc93 := NB106_114.out; have hcz94_0 : w90.cell? ⟨gb114, 0, none⟩ = some (.int .i64 0) := (blk_cell BK114.out 0).trans rfl; have hcz94_1 : w90.cell? ⟨gb114, 1, none⟩ = some (.int .i64 0) := (blk_cell BK114.out 1).trans rfl; have hfz94_0 := blk_frozen BK114.out 0; have hfz94_1 := blk_frozen BK114.out 1))
                        go_roundg k3
                        case measure => have := HJ3.out; have := HK2.out; have := HK3.out; omega
                        case rel => exact ⟨(x9_3), (wrap64 (x39_3 + 1)), (by first | rfl | (simp; done) | (simp [*]; done)), (by first | rfl | (simp; done) | (simp [*]; done)), H', ⟨by have := HJ3.out; have := HK2.out; have := HK3.out; omega⟩, ⟨by (with_reducible repeat (first | apply Kd.R_alloc | apply Kd.R_drewN | apply Kd.R_drew)); exact Kd.R_mono (Kd.R_far (p := ⟨gb114, 1, none⟩) (Kd.R_far (p := ⟨gb114, 0, none⟩) (Kd.R_types HO_107000.out BK114.out (by decide)) (fun _ hk => hk.2) (.int .i64 ((rd_T64 l0 x39_3).f0))) (fun _ hk => hk.2) (.int .i64 ((rd_T64 l0 x39_3).f1))) (fun _ hk => hk.1)⟩, ⟨by (with_reducible repeat (first | apply Kd.R_alloc | apply Kd.R_drewN | apply Kd.R_drew)); exact Kd.R_mono (Kd.R_far (p := ⟨gb114, 1, none⟩) (Kd.R_far (p := ⟨gb114, 0, none⟩) (Kd.R_mono HO_107001.out (fun k_ hk => (⟨hk, hk.2⟩ : _ ∧ k_ ≠ gb114))) (fun _ hk => hk.2) (.int .i64 ((rd_T64 l0 x39_3).f0))) (fun _ hk => hk.2) (.int .i64 ((rd_T64 l0 x39_3).f1))) (fun _ hk => hk.1.1)⟩, ⟨by (with_reducible repeat (first | apply Kd.R_alloc | apply Kd.R_drewN | apply Kd.R_drew)); exact Kd.R_mono (Kd.R_far (p := ⟨gb114, 1, none⟩) (Kd.R_far (p := ⟨gb114, 0, none⟩) (Kd.R_types HO_107002.out BK114.out (by decide)) (fun _ hk => hk.2) (.int .i64 ((rd_T64 l0 x39_3).f0))) (fun _ hk => hk.2) (.int .i64 ((rd_T64 l0 x39_3).f1))) (fun _ hk => hk.1)⟩, ⟨by (with_reducible repeat (first | refine blk_drewN ?_ _ | refine blk_drew ?_ | refine blk_alloc ?_ _)); refine blk_far ?_ NB101_114.out _; (with_reducible repeat (first | refine blk_drewN ?_ _ | refine blk_drew ?_ | refine blk_alloc ?_ _)); refine blk_far ?_ NB101_114.out _; (with_reducible repeat (first | refine blk_drewN ?_ _ | refine blk_drew ?_ | refine blk_alloc ?_ _)); exact BK101.out⟩, ⟨by (with_reducible repeat (first | refine blk_drewN ?_ _ | refine blk_drew ?_ | refine blk_alloc ?_ _)); refine blk_far ?_ NB102_114.out _; (with_reducible repeat (first | refine blk_drewN ?_ _ | refine blk_drew ?_ | refine blk_alloc ?_ _)); refine blk_far ?_ NB102_114.out _; (with_reducible repeat (first | refine blk_drewN ?_ _ | refine blk_drew ?_ | refine blk_alloc ?_ _)); exact BK102.out⟩, ⟨by (with_reducible repeat (first | refine blk_drewN ?_ _ | refine blk_drew ?_ | refine blk_alloc ?_ _)); refine blk_far ?_ NB106_114.out _; (with_reducible repeat (first | refine blk_drewN ?_ _ | refine blk_drew ?_ | refine blk_alloc ?_ _)); refine blk_far ?_ NB106_114.out _; (with_reducible repeat (first | refine blk_drewN ?_ _ | refine blk_drew ?_ | refine blk_alloc ?_ _)); exact BK106.out⟩, ⟨by repeat (first | (with_reducible first | exact HB.out | apply below_alloc | apply pw_below_drewN | apply below_drew1 | refine below_set ?_ GE101.out | refine below_set ?_ GE102.out | refine below_set ?_ GE106.out | refine below_set ?_ GE114.out) | exact HB.out)⟩⟩
                    · rw [if_neg c44] at H
                      exact absurd H (by simp)
                  · rw [if_neg c43] at H
                    exact absurd H (by simp)
                · rw [if_neg c42] at H
                  have c42b0 : decide (x39_3 < (l0.length : Int)) = false := decide_eq_false c42
                  clear c42
                  by_cases c95 : x9_3 > x8_2
                  · rw [if_pos c95] at H
                    have c95b0 : decide (x8_2 < x9_3) = true := decide_eq_true c95
                    clear c95
                    by_cases c96 : x107001_2.length < 8796093022208
                    · rw [if_pos c96] at H
                      have LMc96 := Aside0.mk c96
                      clear c96
                      obtain ⟨y115, hy115⟩ : ∃ y_ : List (S64), y_ = (x107001_2 ++ [(⟨x8_2, x9_3⟩ : S64)]) := ⟨_, rfl⟩
                      replace H : (if x107000_2.length < 17592186044416 then (impl_regionInside.l0 k3 l0 a2 x9_3 a1_0 a1_1 (x107000_2 ++ [x9_3]) y115 x107002_2) else (none)) = some (r1, r2, r3) := by first | (rw [hy115]; with_reducible exact H) | (have H2_ := (Option.bind_some _ _).symm.trans H; rw [hy115]; with_reducible exact H2_) | (have H2_ := (Option.bind_some _ _).symm.trans H; with_reducible exact H2_) | with_reducible exact H | (rw [hy115]; exact H) | exact H
                      have Ny115 := Aside0.mk hy115
                      clear hy115
                      by_cases c97 : x107000_2.length < 17592186044416
                      · rw [if_pos c97] at H
                        have LMc97 := Aside0.mk c97
                        clear c97
                        obtain ⟨y118, hy118⟩ : ∃ y_ : List Int, y_ = (x107000_2 ++ [x9_3]) := ⟨_, rfl⟩
                        replace H : (impl_regionInside.l0 k3 l0 a2 x9_3 a1_0 a1_1 y118 y115 x107002_2) = some (r1, r2, r3) := by first | (rw [hy118]; with_reducible exact H) | (have H2_ := (Option.bind_some _ _).symm.trans H; rw [hy118]; with_reducible exact H2_) | (have H2_ := (Option.bind_some _ _).symm.trans H; with_reducible exact H2_) | with_reducible exact H | (rw [hy118]; exact H) | exact H
                        have Ny118 := Aside0.mk hy118
                        clear hy118
                        have H' := Aside0.mk H
                        clear H
                        have hnb98 := NB106_101.out
                        have hnc98 := NB101_106.out
                        have hnb99 := NB106_102.out
                        have hnc99 := NB102_106.out
                        have hcz100_0 : wr.cell? ⟨gb106, 0, none⟩ = some (u107000) := (blk_cell BK106.out 0).trans rfl
                        have hcz100_1 : wr.cell? ⟨gb106, 1, none⟩ = some (u107001) := (blk_cell BK106.out 1).trans rfl
                        have hcz100_2 : wr.cell? ⟨gb106, 2, none⟩ = some (u107002) := (blk_cell BK106.out 2).trans rfl
                        have hfz100_0 := blk_frozen BK106.out 0
                        have hfz100_1 := blk_frozen BK106.out 1
                        have hfz100_2 := blk_frozen BK106.out 2
                        go_wp2_with (first | ((with_reducible refine gate_builtin (b := .append) (xs := #[.tmp 76, .tmp 80]) rfl ?_); at_builtin; refine Kd.R_append k64 (w0 := w) w.heap.size rfl (.tmp 76) (.tmp 80) 27 64 (.agg #[(.int .i64 0), (.int .i64 0)]) 16 rfl Try.underlying27 info64 rfl (by decide) (by omega) u107001 x107001_2 (⟨x8_2, x9_3⟩ : S64) [.int .i64 x8_2, .int .i64 x9_3] (fun k_ => k_ ≠ gb101) (fun _ => False) rfl rfl ?aP (fun _ hk => hk.elim) ?aF ?aO ?aB ?aS ?aL ?_; (case aP => exact k64_mkM _ _ _ (⟨x8_2, x9_3⟩ : S64)); (case aB => exact (by repeat (first | (with_reducible first | exact HB.out | apply below_alloc | apply pw_below_drewN | apply below_drew1 | refine below_set ?_ GE101.out | refine below_set ?_ GE102.out | refine below_set ?_ GE106.out) | exact HB.out))); (case aF => exact (fun k_ hk => Kd.freshB (g := gb101) (o := .cells #[.int .i64 a1_0, .int .i64 a1_1] 64 (0, 0)) (by (with_reducible repeat (first | refine blk_drewN ?_ _ | refine blk_drew ?_ | refine blk_alloc ?_ _)); exact BK101.out) k_ hk)); (case aO => exact (by (with_reducible repeat (first | apply Kd.R_alloc | apply Kd.R_drewN | apply Kd.R_drew)); exact HO_107001.out)); (case aS => exact (below_size (by repeat (first | (with_reducible first | exact HB.out | apply below_alloc | apply pw_below_drewN | apply below_drew1 | refine below_set ?_ GE101.out | refine below_set ?_ GE102.out | refine below_set ?_ GE106.out) | exact HB.out)))); (case aL => have := LMc96.out; omega); intro v116 w101 ho hb hg hat; rw [← Ny115.out] at ho; have n0_ := Aside0.mk (Kd.R_over' (by (with_reducible repeat (first | apply Kd.R_alloc | apply Kd.R_drewN | apply Kd.R_drew)); exact HO_107000.out) (Kd.R_typed (by (with_reducible repeat (first | apply Kd.R_alloc | apply Kd.R_drewN | apply Kd.R_drew)); exact HO_107001.out)) (by decide) hg); have n1_ := Aside0.mk (Kd.R_over' (by (with_reducible repeat (first | apply Kd.R_alloc | apply Kd.R_drewN | apply Kd.R_drew)); exact HO_107002.out) (Kd.R_typed (by (with_reducible repeat (first | apply Kd.R_alloc | apply Kd.R_drewN | apply Kd.R_drew)); exact HO_107001.out)) (by decide) hg); have n2_ := Aside0.mk (blk_grown (g := gb101) (o := .cells #[.int .i64 a1_0, .int .i64 a1_1] 64 (0, 0)) (by (with_reducible repeat (first | refine blk_drewN ?_ _ | refine blk_drew ?_ | refine blk_alloc ?_ _)); exact BK101.out) hg (Kd.R_away HO_107001.out (fun _ hk => hk))); have n3_ := Aside0.mk (blk_grown (g := gb102) (o := .cells #[.slice none 0 0, .slice none 0 0, .slice none 0 0] 71 (0, 0)) (by (with_reducible repeat (first | refine blk_drewN ?_ _ | refine blk_drew ?_ | refine blk_alloc ?_ _)); exact BK102.out) hg (Kd.R_ne HO_107001.out BK102.out (by decide))); have n4_ := Aside0.mk (blk_grown (g := gb106) (o := .cells #[u107000, u107001, u107002] 71 (0, 0)) (by (with_reducible repeat (first | refine blk_drewN ?_ _ | refine blk_drew ?_ | refine blk_alloc ?_ _)); exact BK106.out) hg (Kd.R_ne HO_107001.out BK106.out (by decide))); have n5_ := Aside0.mk (hb); have n6_ := Aside0.mk (ho); clear HO_107000; clear HO_107002; clear BK101; clear BK102; clear BK106; clear HB; clear HO_107001; have HO_107000 := n0_; have HO_107002 := n1_; have BK101 := n2_; have BK102 := n3_; have BK106 := n4_; have HB := n5_; have HO117 := n6_; clear n0_ n1_ n2_ n3_ n4_ n5_ n6_; clear ho hb hg hat; obtain ⟨Ao102, co102, eo102⟩ := Kd.R_slice HO117.out; subst eo102; have hcz103_0 : w101.cell? ⟨gb106, 0, none⟩ = some (u107000) := (blk_cell BK106.out 0).trans rfl; have hcz103_1 : w101.cell? ⟨gb106, 1, none⟩ = some (u107001) := (blk_cell BK106.out 1).trans rfl; have hcz103_2 : w101.cell? ⟨gb106, 2, none⟩ = some (u107002) := (blk_cell BK106.out 2).trans rfl; have hfz103_0 := blk_frozen BK106.out 0; have hfz103_1 := blk_frozen BK106.out 1; have hfz103_2 := blk_frozen BK106.out 2) | ((with_reducible refine gate_builtin (b := .append) (xs := #[.tmp 93, .tmp 95]) rfl ?_); at_builtin; refine Kd.R_append (Kd.int .i64) (w0 := w) w.heap.size rfl (.tmp 93) (.tmp 95) 24 3 (.int .i64 0) 8 rfl Try.underlying24 info3 rfl (by decide) (by omega) u107000 x107000_2 x9_3 [.int .i64 x9_3] (fun k_ => some k_ ≠ (u107002 : Value).ownBlock) (fun _ => False) rfl (by first | (go_simp; done) | (go_simp; rfl)) ?aP (fun _ hk => hk.elim) ?aF ?aO ?aB ?aS ?aL ?_; (case aP => exact rfl); (case aB => exact (by repeat (first | (with_reducible first | exact HB.out | apply below_alloc | apply pw_below_drewN | apply below_drew1 | refine below_set ?_ GE101.out | refine below_set ?_ GE102.out | refine below_set ?_ GE106.out) | exact HB.out))); (case aF => exact (fun k_ hk => Kd.fresh' (Kd.R_lt (by (with_reducible repeat (first | apply Kd.R_alloc | apply Kd.R_drewN | apply Kd.R_drew)); exact (Kd.R_mono (Kd.R_far (p := ⟨gb106, 1, none⟩) (Kd.R_types HO_107002.out BK106.out (by decide)) (fun _ hk => hk.2) (.slice Ao102 y115.length co102)) (fun _ h_ => h_.1)))) k_ hk)); (case aO => exact (by (with_reducible repeat (first | apply Kd.R_alloc | apply Kd.R_drewN | apply Kd.R_drew)); exact Kd.R_mono (Kd.R_far (p := ⟨gb106, 1, none⟩) (Kd.R_types HO_107000.out BK106.out (by decide)) (fun _ hk => hk.2) (.slice Ao102 y115.length co102)) (fun _ hk => hk.1))); (case aS => exact (below_size (by repeat (first | (with_reducible first | exact HB.out | apply below_alloc | apply pw_below_drewN | apply below_drew1 | refine below_set ?_ GE101.out | refine below_set ?_ GE102.out | refine below_set ?_ GE106.out) | exact HB.out)))); (case aL => have := LMc97.out; omega); intro v119 w104 ho hb hg hat; rw [← Ny118.out] at ho; have n0_ := Aside0.mk (Kd.R_after (ok := (fun _ => True)) (by (with_reducible repeat (first | apply Kd.R_alloc | apply Kd.R_drewN | apply Kd.R_drew)); exact Kd.R_mono (Kd.R_far (p := ⟨gb106, 1, none⟩) (Kd.R_types HO_107002.out BK106.out (by decide)) (fun _ hk => hk.2) (.slice Ao102 y115.length co102)) (fun _ hk => ⟨trivial, hk.1⟩)) hg hat); have n1_ := Aside0.mk (blk_grown (g := gb101) (o := .cells #[.int .i64 a1_0, .int .i64 a1_1] 64 (0, 0)) (by (with_reducible repeat (first | refine blk_drewN ?_ _ | refine blk_drew ?_ | refine blk_alloc ?_ _)); refine blk_far ?_ NB101_106.out _; (with_reducible repeat (first | refine blk_drewN ?_ _ | refine blk_drew ?_ | refine blk_alloc ?_ _)); exact BK101.out) hg (Kd.R_ne HO_107000.out BK101.out (by decide))); have n2_ := Aside0.mk (blk_grown (g := gb102) (o := .cells #[.slice none 0 0, .slice none 0 0, .slice none 0 0] 71 (0, 0)) (by (with_reducible repeat (first | refine blk_drewN ?_ _ | refine blk_drew ?_ | refine blk_alloc ?_ _)); refine blk_far ?_ NB102_106.out _; (with_reducible repeat (first | refine blk_drewN ?_ _ | refine blk_drew ?_ | refine blk_alloc ?_ _)); exact BK102.out) hg (Kd.R_ne HO_107000.out BK102.out (by decide))); have n3_ := Aside0.mk (blk_grown (g := gb106) (o := .cells #[u107000, .slice Ao102 y115.length co102, u107002] 71 (0, 0)) (by (with_reducible repeat (first | refine blk_drewN ?_ _ | refine blk_drew ?_ | refine blk_alloc ?_ _)); refine blk_put (cs := #[u107000, u107001, u107002]) ?_ 1 _ rfl; (with_reducible repeat (first | refine blk_drewN ?_ _ | refine blk_drew ?_ | refine blk_alloc ?_ _)); exact BK106.out) hg (Kd.R_ne HO_107000.out BK106.out (by decide))); have n4_ := Aside0.mk (Kd.R_over' (by (with_reducible repeat (first | apply Kd.R_alloc | apply Kd.R_drewN | apply Kd.R_drew)); exact (Kd.R_mono (Kd.R_far (p := ⟨gb106, 1, none⟩) (Kd.R_types HO117.out BK106.out (by decide)) (fun _ hk => hk.2) (.slice Ao102 y115.length co102)) (fun _ h_ => h_.1))) (Kd.R_typed (by (with_reducible repeat (first | apply Kd.R_alloc | apply Kd.R_drewN | apply Kd.R_drew)); exact (Kd.R_mono (Kd.R_far (p := ⟨gb106, 1, none⟩) (Kd.R_types HO_107000.out BK106.out (by decide)) (fun _ hk => hk.2) (.slice Ao102 y115.length co102)) (fun _ h_ => h_.1)))) (by decide) hg); have n5_ := Aside0.mk (hb); have n6_ := Aside0.mk (ho); clear HO_107002; clear BK101; clear BK102; clear BK106; clear HO117; clear HB; clear HO_107000; have HO_107002 := n0_; have BK101 := n1_; have BK102 := n2_; have BK106 := n3_; have HO117 := n4_; have HB := n5_; have HO120 := n6_; clear n0_ n1_ n2_ n3_ n4_ n5_ n6_; clear ho hb hg hat; obtain ⟨Ao105, co105, eo105⟩ := Kd.R_slice HO120.out; subst eo105; have hcz106_0 : w104.cell? ⟨gb106, 0, none⟩ = some (u107000) := (blk_cell BK106.out 0).trans rfl; have hcz106_1 : w104.cell? ⟨gb106, 1, none⟩ = some (.slice Ao102 y115.length co102) := (blk_cell BK106.out 1).trans rfl; have hcz106_2 : w104.cell? ⟨gb106, 2, none⟩ = some (u107002) := (blk_cell BK106.out 2).trans rfl; have hfz106_0 := blk_frozen BK106.out 0; have hfz106_1 := blk_frozen BK106.out 1; have hfz106_2 := blk_frozen BK106.out 2))
                        go_roundg k3
                        case measure => have := HJ3.out; have := HK2.out; have := HK3.out; omega
                        case rel => exact ⟨(x9_3), (y118), (y115), (x107002_2), (.slice Ao105 y118.length co105), (.slice Ao102 y115.length co102), (u107002), (by first | rfl | (simp; done) | (simp [*]; done)), H', ⟨by have := HJ3.out; have := HK2.out; have := HK3.out; omega⟩, ⟨by (with_reducible repeat (first | apply Kd.R_alloc | apply Kd.R_drewN | apply Kd.R_drew)); exact Kd.R_mono (Kd.R_far (p := ⟨gb106, 0, none⟩) (Kd.R_types HO120.out BK106.out (by decide)) (fun _ hk => hk.2) (.slice Ao105 y118.length co105)) (fun _ hk => hk.1)⟩, ⟨by (with_reducible repeat (first | apply Kd.R_alloc | apply Kd.R_drewN | apply Kd.R_drew)); exact Kd.R_mono (Kd.R_far (p := ⟨gb106, 0, none⟩) (Kd.R_types HO117.out BK106.out (by decide)) (fun _ hk => hk.2) (.slice Ao105 y118.length co105)) (fun _ hk => hk.1)⟩, ⟨by (with_reducible repeat (first | apply Kd.R_alloc | apply Kd.R_drewN | apply Kd.R_drew)); exact Kd.R_mono (Kd.R_far (p := ⟨gb106, 0, none⟩) (Kd.R_types HO_107002.out BK106.out (by decide)) (fun _ hk => hk.2) (.slice Ao105 y118.length co105)) (fun _ hk => hk.1.2)⟩, ⟨by (with_reducible repeat (first | refine blk_drewN ?_ _ | refine blk_drew ?_ | refine blk_alloc ?_ _)); refine blk_far ?_ NB101_106.out _; (with_reducible repeat (first | refine blk_drewN ?_ _ | refine blk_drew ?_ | refine blk_alloc ?_ _)); exact BK101.out⟩, ⟨by (with_reducible repeat (first | refine blk_drewN ?_ _ | refine blk_drew ?_ | refine blk_alloc ?_ _)); refine blk_far ?_ NB102_106.out _; (with_reducible repeat (first | refine blk_drewN ?_ _ | refine blk_drew ?_ | refine blk_alloc ?_ _)); exact BK102.out⟩, ⟨by (with_reducible repeat (first | refine blk_drewN ?_ _ | refine blk_drew ?_ | refine blk_alloc ?_ _)); refine blk_put (cs := #[u107000, .slice Ao102 y115.length co102, u107002]) ?_ 0 _ rfl; (with_reducible repeat (first | refine blk_drewN ?_ _ | refine blk_drew ?_ | refine blk_alloc ?_ _)); exact BK106.out⟩, ⟨by repeat (first | (with_reducible first | exact HB.out | apply below_alloc | apply pw_below_drewN | apply below_drew1 | refine below_set ?_ GE101.out | refine below_set ?_ GE102.out | refine below_set ?_ GE106.out) | exact HB.out)⟩⟩
                      · rw [if_neg c97] at H
                        exact absurd H (by simp)
                    · rw [if_neg c96] at H
                      exact absurd H (by simp)
                  · rw [if_neg c95] at H
                    have c95b0 : decide (x8_2 < x9_3) = false := decide_eq_false c95
                    clear c95
                    by_cases c107 : x107002_2.length < 17592186044416
                    · rw [if_pos c107] at H
                      have LMc107 := Aside0.mk c107
                      clear c107
                      obtain ⟨y121, hy121⟩ : ∃ y_ : List Int, y_ = (x107002_2 ++ [x8_2]) := ⟨_, rfl⟩
                      replace H : (if x107000_2.length < 17592186044416 then (impl_regionInside.l0 k3 l0 a2 (wrap64 (x8_2 + 1)) a1_0 a1_1 (x107000_2 ++ [wrap64 (x8_2 + 1)]) x107001_2 y121) else (none)) = some (r1, r2, r3) := by first | (rw [hy121]; with_reducible exact H) | (have H2_ := (Option.bind_some _ _).symm.trans H; rw [hy121]; with_reducible exact H2_) | (have H2_ := (Option.bind_some _ _).symm.trans H; with_reducible exact H2_) | with_reducible exact H | (rw [hy121]; exact H) | exact H
                      have Ny121 := Aside0.mk hy121
                      clear hy121
                      by_cases c108 : x107000_2.length < 17592186044416
                      · rw [if_pos c108] at H
                        have LMc108 := Aside0.mk c108
                        clear c108
                        obtain ⟨y124, hy124⟩ : ∃ y_ : List Int, y_ = (x107000_2 ++ [wrap64 (x8_2 + 1)]) := ⟨_, rfl⟩
                        replace H : (impl_regionInside.l0 k3 l0 a2 (wrap64 (x8_2 + 1)) a1_0 a1_1 y124 x107001_2 y121) = some (r1, r2, r3) := by first | (rw [hy124]; with_reducible exact H) | (have H2_ := (Option.bind_some _ _).symm.trans H; rw [hy124]; with_reducible exact H2_) | (have H2_ := (Option.bind_some _ _).symm.trans H; with_reducible exact H2_) | with_reducible exact H | (rw [hy124]; exact H) | exact H
                        have Ny124 := Aside0.mk hy124
                        clear hy124
                        have H' := Aside0.mk H
                        clear H
                        have hnb109 := NB106_101.out
                        have hnc109 := NB101_106.out
                        have hnb110 := NB106_102.out
                        have hnc110 := NB102_106.out
                        have hcz111_0 : wr.cell? ⟨gb106, 0, none⟩ = some (u107000) := (blk_cell BK106.out 0).trans rfl
                        have hcz111_1 : wr.cell? ⟨gb106, 1, none⟩ = some (u107001) := (blk_cell BK106.out 1).trans rfl
                        have hcz111_2 : wr.cell? ⟨gb106, 2, none⟩ = some (u107002) := (blk_cell BK106.out 2).trans rfl
                        have hfz111_0 := blk_frozen BK106.out 0
                        have hfz111_1 := blk_frozen BK106.out 1
                        have hfz111_2 := blk_frozen BK106.out 2
                        go_wp2_with (first | ((with_reducible refine gate_builtin (b := .append) (xs := #[.tmp 84, .tmp 86]) rfl ?_); at_builtin; refine Kd.R_append (Kd.int .i64) (w0 := w) w.heap.size rfl (.tmp 84) (.tmp 86) 24 3 (.int .i64 0) 8 rfl Try.underlying24 info3 rfl (by decide) (by omega) u107002 x107002_2 x8_2 [.int .i64 x8_2] (fun k_ => some k_ ≠ (u107000 : Value).ownBlock) (fun _ => False) rfl rfl ?aP (fun _ hk => hk.elim) ?aF ?aO ?aB ?aS ?aL ?_; (case aP => exact rfl); (case aB => exact (by repeat (first | (with_reducible first | exact HB.out | apply below_alloc | apply pw_below_drewN | apply below_drew1 | refine below_set ?_ GE101.out | refine below_set ?_ GE102.out | refine below_set ?_ GE106.out) | exact HB.out))); (case aF => exact (fun k_ hk => Kd.fresh' (Kd.R_lt (by (with_reducible repeat (first | apply Kd.R_alloc | apply Kd.R_drewN | apply Kd.R_drew)); exact HO_107000.out)) k_ hk)); (case aO => exact (by (with_reducible repeat (first | apply Kd.R_alloc | apply Kd.R_drewN | apply Kd.R_drew)); exact HO_107002.out)); (case aS => exact (below_size (by repeat (first | (with_reducible first | exact HB.out | apply below_alloc | apply pw_below_drewN | apply below_drew1 | refine below_set ?_ GE101.out | refine below_set ?_ GE102.out | refine below_set ?_ GE106.out) | exact HB.out)))); (case aL => have := LMc107.out; omega); intro v122 w112 ho hb hg hat; rw [← Ny121.out] at ho; have n0_ := Aside0.mk (Kd.R_after (ok := (fun _ => True)) (by (with_reducible repeat (first | apply Kd.R_alloc | apply Kd.R_drewN | apply Kd.R_drew)); exact Kd.R_mono HO_107000.out (fun _ hk => ⟨trivial, hk⟩)) hg hat); have n1_ := Aside0.mk (Kd.R_over' (by (with_reducible repeat (first | apply Kd.R_alloc | apply Kd.R_drewN | apply Kd.R_drew)); exact HO_107001.out) (Kd.R_typed (by (with_reducible repeat (first | apply Kd.R_alloc | apply Kd.R_drewN | apply Kd.R_drew)); exact HO_107002.out)) (by decide) hg); have n2_ := Aside0.mk (blk_grown (g := gb101) (o := .cells #[.int .i64 a1_0, .int .i64 a1_1] 64 (0, 0)) (by (with_reducible repeat (first | refine blk_drewN ?_ _ | refine blk_drew ?_ | refine blk_alloc ?_ _)); exact BK101.out) hg (Kd.R_ne HO_107002.out BK101.out (by decide))); have n3_ := Aside0.mk (blk_grown (g := gb102) (o := .cells #[.slice none 0 0, .slice none 0 0, .slice none 0 0] 71 (0, 0)) (by (with_reducible repeat (first | refine blk_drewN ?_ _ | refine blk_drew ?_ | refine blk_alloc ?_ _)); exact BK102.out) hg (Kd.R_ne HO_107002.out BK102.out (by decide))); have n4_ := Aside0.mk (blk_grown (g := gb106) (o := .cells #[u107000, u107001, u107002] 71 (0, 0)) (by (with_reducible repeat (first | refine blk_drewN ?_ _ | refine blk_drew ?_ | refine blk_alloc ?_ _)); exact BK106.out) hg (Kd.R_ne HO_107002.out BK106.out (by decide))); have n5_ := Aside0.mk (hb); have n6_ := Aside0.mk (ho); clear HO_107000; clear HO_107001; clear BK101; clear BK102; clear BK106; clear HB; clear HO_107002; have HO_107000 := n0_; have HO_107001 := n1_; have BK101 := n2_; have BK102 := n3_; have BK106 := n4_; have HB := n5_; have HO123 := n6_; clear n0_ n1_ n2_ n3_ n4_ n5_ n6_; clear ho hb hg hat; obtain ⟨Ao113, co113, eo113⟩ := Kd.R_slice HO123.out; subst eo113; have hcz114_0 : w112.cell? ⟨gb106, 0, none⟩ = some (u107000) := (blk_cell BK106.out 0).trans rfl; have hcz114_1 : w112.cell? ⟨gb106, 1, none⟩ = some (u107001) := (blk_cell BK106.out 1).trans rfl; have hcz114_2 : w112.cell? ⟨gb106, 2, none⟩ = some (u107002) := (blk_cell BK106.out 2).trans rfl; have hfz114_0 := blk_frozen BK106.out 0; have hfz114_1 := blk_frozen BK106.out 1; have hfz114_2 := blk_frozen BK106.out 2) | ((with_reducible refine gate_builtin (b := .append) (xs := #[.tmp 93, .tmp 95]) rfl ?_); at_builtin; refine Kd.R_append (Kd.int .i64) (w0 := w) w.heap.size rfl (.tmp 93) (.tmp 95) 24 3 (.int .i64 0) 8 rfl Try.underlying24 info3 rfl (by decide) (by omega) u107000 x107000_2 (wrap64 (x8_2 + 1)) [.int .i64 (wrap64 (x8_2 + 1))] (fun k_ => some k_ ≠ (.slice Ao113 y121.length co113 : Value).ownBlock) (fun _ => False) rfl (by first | (go_simp; done) | (go_simp; rfl)) ?aP (fun _ hk => hk.elim) ?aF ?aO ?aB ?aS ?aL ?_; (case aP => exact rfl); (case aB => exact (by repeat (first | (with_reducible first | exact HB.out | apply below_alloc | apply pw_below_drewN | apply below_drew1 | refine below_set ?_ GE101.out | refine below_set ?_ GE102.out | refine below_set ?_ GE106.out) | exact HB.out))); (case aF => exact (fun k_ hk => Kd.fresh' (Kd.R_lt (by (with_reducible repeat (first | apply Kd.R_alloc | apply Kd.R_drewN | apply Kd.R_drew)); exact (Kd.R_mono (Kd.R_far (p := ⟨gb106, 2, none⟩) (Kd.R_types HO123.out BK106.out (by decide)) (fun _ hk => hk.2) (.slice Ao113 y121.length co113)) (fun _ h_ => h_.1)))) k_ hk)); (case aO => exact (by (with_reducible repeat (first | apply Kd.R_alloc | apply Kd.R_drewN | apply Kd.R_drew)); exact Kd.R_mono (Kd.R_far (p := ⟨gb106, 2, none⟩) (Kd.R_types HO_107000.out BK106.out (by decide)) (fun _ hk => hk.2) (.slice Ao113 y121.length co113)) (fun _ hk => hk.1.2))); (case aS => exact (below_size (by repeat (first | (with_reducible first | exact HB.out | apply below_alloc | apply pw_below_drewN | apply below_drew1 | refine below_set ?_ GE101.out | refine below_set ?_ GE102.out | refine below_set ?_ GE106.out) | exact HB.out)))); (case aL => have := LMc108.out; omega); intro v125 w115 ho hb hg hat; rw [← Ny124.out] at ho; have n0_ := Aside0.mk (Kd.R_over' (by (with_reducible repeat (first | apply Kd.R_alloc | apply Kd.R_drewN | apply Kd.R_drew)); exact (Kd.R_mono (Kd.R_far (p := ⟨gb106, 2, none⟩) (Kd.R_types HO_107001.out BK106.out (by decide)) (fun _ hk => hk.2) (.slice Ao113 y121.length co113)) (fun _ h_ => h_.1))) (Kd.R_typed (by (with_reducible repeat (first | apply Kd.R_alloc | apply Kd.R_drewN | apply Kd.R_drew)); exact (Kd.R_mono (Kd.R_far (p := ⟨gb106, 2, none⟩) (Kd.R_types HO_107000.out BK106.out (by decide)) (fun _ hk => hk.2) (.slice Ao113 y121.length co113)) (fun _ h_ => h_.1)))) (by decide) hg); have n1_ := Aside0.mk (blk_grown (g := gb101) (o := .cells #[.int .i64 a1_0, .int .i64 a1_1] 64 (0, 0)) (by (with_reducible repeat (first | refine blk_drewN ?_ _ | refine blk_drew ?_ | refine blk_alloc ?_ _)); refine blk_far ?_ NB101_106.out _; (with_reducible repeat (first | refine blk_drewN ?_ _ | refine blk_drew ?_ | refine blk_alloc ?_ _)); exact BK101.out) hg (Kd.R_ne HO_107000.out BK101.out (by decide))); have n2_ := Aside0.mk (blk_grown (g := gb102) (o := .cells #[.slice none 0 0, .slice none 0 0, .slice none 0 0] 71 (0, 0)) (by (with_reducible repeat (first | refine blk_drewN ?_ _ | refine blk_drew ?_ | refine blk_alloc ?_ _)); refine blk_far ?_ NB102_106.out _; (with_reducible repeat (first | refine blk_drewN ?_ _ | refine blk_drew ?_ | refine blk_alloc ?_ _)); exact BK102.out) hg (Kd.R_ne HO_107000.out BK102.out (by decide))); have n3_ := Aside0.mk (blk_grown (g := gb106) (o := .cells #[u107000, u107001, .slice Ao113 y121.length co113] 71 (0, 0)) (by (with_reducible repeat (first | refine blk_drewN ?_ _ | refine blk_drew ?_ | refine blk_alloc ?_ _)); refine blk_put (cs := #[u107000, u107001, u107002]) ?_ 2 _ rfl; (with_reducible repeat (first | refine blk_drewN ?_ _ | refine blk_drew ?_ | refine blk_alloc ?_ _)); exact BK106.out) hg (Kd.R_ne HO_107000.out BK106.out (by decide))); have n4_ := Aside0.mk (Kd.R_after (ok := (fun _ => True)) (by (with_reducible repeat (first | apply Kd.R_alloc | apply Kd.R_drewN | apply Kd.R_drew)); exact Kd.R_mono (Kd.R_far (p := ⟨gb106, 2, none⟩) (Kd.R_types HO123.out BK106.out (by decide)) (fun _ hk => hk.2) (.slice Ao113 y121.length co113)) (fun _ hk => ⟨trivial, hk.1⟩)) hg hat); have n5_ := Aside0.mk (hb); have n6_ := Aside0.mk (ho); clear HO_107001; clear BK101; clear BK102; clear BK106; clear HO123; clear HB; clear HO_107000; have HO_107001 := n0_; have BK101 := n1_; have BK102 := n2_; have BK106 := n3_; have HO123 := n4_; have HB := n5_; have HO126 := n6_; clear n0_ n1_ n2_ n3_ n4_ n5_ n6_; clear ho hb hg hat; obtain ⟨Ao116, co116, eo116⟩ := Kd.R_slice HO126.out; subst eo116; have hcz117_0 : w115.cell? ⟨gb106, 0, none⟩ = some (u107000) := (blk_cell BK106.out 0).trans rfl; have hcz117_1 : w115.cell? ⟨gb106, 1, none⟩ = some (u107001) := (blk_cell BK106.out 1).trans rfl; have hcz117_2 : w115.cell? ⟨gb106, 2, none⟩ = some (.slice Ao113 y121.length co113) := (blk_cell BK106.out 2).trans rfl; have hfz117_0 := blk_frozen BK106.out 0; have hfz117_1 := blk_frozen BK106.out 1; have hfz117_2 := blk_frozen BK106.out 2))
                        go_roundg k3
                        case measure => have := HJ3.out; have := HK2.out; have := HK3.out; omega
                        case rel => exact ⟨(wrap64 (x8_2 + 1)), (y124), (x107001_2), (y121), (.slice Ao116 y124.length co116), (u107001), (.slice Ao113 y121.length co113), (by first | rfl | (simp; done) | (simp [*]; done)), H', ⟨by have := HJ3.out; have := HK2.out; have := HK3.out; omega⟩, ⟨by (with_reducible repeat (first | apply Kd.R_alloc | apply Kd.R_drewN | apply Kd.R_drew)); exact Kd.R_mono (Kd.R_far (p := ⟨gb106, 0, none⟩) (Kd.R_types HO126.out BK106.out (by decide)) (fun _ hk => hk.2) (.slice Ao116 y124.length co116)) (fun _ hk => hk.1)⟩, ⟨by (with_reducible repeat (first | apply Kd.R_alloc | apply Kd.R_drewN | apply Kd.R_drew)); exact Kd.R_mono (Kd.R_far (p := ⟨gb106, 0, none⟩) (Kd.R_types HO_107001.out BK106.out (by decide)) (fun _ hk => hk.2) (.slice Ao116 y124.length co116)) (fun _ hk => hk.1)⟩, ⟨by (with_reducible repeat (first | apply Kd.R_alloc | apply Kd.R_drewN | apply Kd.R_drew)); exact Kd.R_mono (Kd.R_far (p := ⟨gb106, 0, none⟩) (Kd.R_types HO123.out BK106.out (by decide)) (fun _ hk => hk.2) (.slice Ao116 y124.length co116)) (fun _ hk => hk.1.2)⟩, ⟨by (with_reducible repeat (first | refine blk_drewN ?_ _ | refine blk_drew ?_ | refine blk_alloc ?_ _)); refine blk_far ?_ NB101_106.out _; (with_reducible repeat (first | refine blk_drewN ?_ _ | refine blk_drew ?_ | refine blk_alloc ?_ _)); exact BK101.out⟩, ⟨by (with_reducible repeat (first | refine blk_drewN ?_ _ | refine blk_drew ?_ | refine blk_alloc ?_ _)); refine blk_far ?_ NB102_106.out _; (with_reducible repeat (first | refine blk_drewN ?_ _ | refine blk_drew ?_ | refine blk_alloc ?_ _)); exact BK102.out⟩, ⟨by (with_reducible repeat (first | refine blk_drewN ?_ _ | refine blk_drew ?_ | refine blk_alloc ?_ _)); refine blk_put (cs := #[u107000, u107001, .slice Ao113 y121.length co113]) ?_ 0 _ rfl; (with_reducible repeat (first | refine blk_drewN ?_ _ | refine blk_drew ?_ | refine blk_alloc ?_ _)); exact BK106.out⟩, ⟨by repeat (first | (with_reducible first | exact HB.out | apply below_alloc | apply pw_below_drewN | apply below_drew1 | refine below_set ?_ GE101.out | refine below_set ?_ GE102.out | refine below_set ?_ GE106.out) | exact HB.out)⟩⟩
                      · rw [if_neg c108] at H
                        exact absurd H (by simp)
                    · rw [if_neg c107] at H
                      exact absurd H (by simp)
          · rw [if_neg c38] at H
            have c38b0 : decide (x8_2 < a1_1) = false := decide_eq_false c38
            clear c38
            simp only [Option.some.injEq, Prod.mk.injEq] at H
            obtain ⟨rfl, rfl, rfl⟩ := H
            have hnb118 := NB101_102.out
            have hnc118 := NB102_101.out
            have hnb119 := NB101_106.out
            have hnc119 := NB106_101.out
            have hcz120_0 : wr.cell? ⟨gb101, 0, none⟩ = some (.int .i64 a1_0) := (blk_cell BK101.out 0).trans rfl
            have hcz120_1 : wr.cell? ⟨gb101, 1, none⟩ = some (.int .i64 a1_1) := (blk_cell BK101.out 1).trans rfl
            have hfz120_0 := blk_frozen BK101.out 0
            have hfz120_1 := blk_frozen BK101.out 1
            have hnb121 := NB106_102.out
            have hnc121 := NB102_106.out
            have hcz122_0 : wr.cell? ⟨gb106, 0, none⟩ = some (u107000) := (blk_cell BK106.out 0).trans rfl
            have hcz122_1 : wr.cell? ⟨gb106, 1, none⟩ = some (u107001) := (blk_cell BK106.out 1).trans rfl
            have hcz122_2 : wr.cell? ⟨gb106, 2, none⟩ = some (u107002) := (blk_cell BK106.out 2).trans rfl
            have hfz122_0 := blk_frozen BK106.out 0
            have hfz122_1 := blk_frozen BK106.out 1
            have hfz122_2 := blk_frozen BK106.out 2
            obtain ⟨Ao123, co123, eo123⟩ := Kd.R_slice HO_107000.out
            subst eo123
            have hcz124_0 : wr.cell? ⟨gb102, 0, none⟩ = some (.slice none 0 0) := (blk_cell BK102.out 0).trans rfl
            have hcz124_1 : wr.cell? ⟨gb102, 1, none⟩ = some (.slice none 0 0) := (blk_cell BK102.out 1).trans rfl
            have hcz124_2 : wr.cell? ⟨gb102, 2, none⟩ = some (.slice none 0 0) := (blk_cell BK102.out 2).trans rfl
            have hfz124_0 := blk_frozen BK102.out 0
            have hfz124_1 := blk_frozen BK102.out 1
            have hfz124_2 := blk_frozen BK102.out 2
            obtain ⟨Ao125, co125, eo125⟩ := Kd.R_slice HO_107001.out
            subst eo125
            obtain ⟨Ao126, co126, eo126⟩ := Kd.R_slice HO_107002.out
            subst eo126
            go_wp2
            refine bodyPost_ret (results_cell_row rfl _ _ gb102 71 #[.slice Ao123 x107000_2.length co123, .slice Ao125 x107001_2.length co125, .slice Ao126 x107002_2.length co126] (0, 0) _ rfl (by (with_reducible repeat (first | refine blk_drewN ?_ _ | refine blk_drew ?_ | refine blk_alloc ?_ _)); refine blk_put (cs := #[.slice Ao123 x107000_2.length co123, .slice Ao125 x107001_2.length co125, .slice none 0 0]) ?_ 2 _ rfl; (with_reducible repeat (first | refine blk_drewN ?_ _ | refine blk_drew ?_ | refine blk_alloc ?_ _)); refine blk_put (cs := #[.slice Ao123 x107000_2.length co123, .slice none 0 0, .slice none 0 0]) ?_ 1 _ rfl; (with_reducible repeat (first | refine blk_drewN ?_ _ | refine blk_drew ?_ | refine blk_alloc ?_ _)); refine blk_put (cs := #[.slice none 0 0, .slice none 0 0, .slice none 0 0]) ?_ 0 _ rfl; (with_reducible repeat (first | refine blk_drewN ?_ _ | refine blk_drew ?_ | refine blk_alloc ?_ _)); exact BK102.out) Try.underlying71 rfl (by kernel_rfl)) rfl ?_
            exact ⟨_, _, _, by first | rfl | (simp [errW_none, errW_some] <;> rfl) | (simp [*, errW_none, errW_some] <;> rfl), by (with_reducible repeat (first | apply Kd.R_alloc | apply Kd.R_drewN | apply Kd.R_drew)); exact Kd.R_mono (Kd.R_far (p := ⟨gb102, 2, none⟩) (Kd.R_far (p := ⟨gb102, 1, none⟩) (Kd.R_far (p := ⟨gb102, 0, none⟩) (Kd.R_types HO_107000.out BK102.out (by decide)) (fun _ hk => hk.2) (.slice Ao123 x107000_2.length co123)) (fun _ hk => hk.2) (.slice Ao125 x107001_2.length co125)) (fun _ hk => hk.2) (.slice Ao126 x107002_2.length co126)) (fun _ hk => hk.1), by (with_reducible repeat (first | apply Kd.R_alloc | apply Kd.R_drewN | apply Kd.R_drew)); exact Kd.R_mono (Kd.R_far (p := ⟨gb102, 2, none⟩) (Kd.R_far (p := ⟨gb102, 1, none⟩) (Kd.R_far (p := ⟨gb102, 0, none⟩) (Kd.R_types HO_107001.out BK102.out (by decide)) (fun _ hk => hk.2) (.slice Ao123 x107000_2.length co123)) (fun _ hk => hk.2) (.slice Ao125 x107001_2.length co125)) (fun _ hk => hk.2) (.slice Ao126 x107002_2.length co126)) (fun _ hk => trivial), by (with_reducible repeat (first | apply Kd.R_alloc | apply Kd.R_drewN | apply Kd.R_drew)); exact Kd.R_mono (Kd.R_far (p := ⟨gb102, 2, none⟩) (Kd.R_far (p := ⟨gb102, 1, none⟩) (Kd.R_far (p := ⟨gb102, 0, none⟩) (Kd.R_types HO_107002.out BK102.out (by decide)) (fun _ hk => hk.2) (.slice Ao123 x107000_2.length co123)) (fun _ hk => hk.2) (.slice Ao125 x107001_2.length co125)) (fun _ hk => hk.2) (.slice Ao126 x107002_2.length co126)) (fun _ hk => hk.1), by repeat (first | (with_reducible first | exact HB.out | apply below_alloc | apply pw_below_drewN | apply below_drew1 | refine below_set ?_ GE101.out | refine below_set ?_ GE102.out | refine below_set ?_ GE106.out) | exact HB.out)⟩
end Go.Proofs.Yteeghncofacmhaa.Q
end
section
/- Crossings and regions' walks: plain laws on the printed functions. -/
namespace Go.Proofs.Yteeghncofacmhaa.Q
open Go.RowKit Go.Proofs.YteeghncofacmhaaW.PrintWords Go.Proofs.YteeghncofacmhaaW.PrintLast Go.Proofs.YteeghncofacmhaaW.PrintMore
set_option linter.unusedVariables false
set_option linter.unusedSimpArgs false
def crossP (c d : Ch) : Bool := decide (c.f0 < d.f0 ∧ d.f0 < c.f1 ∧ c.f1 < d.f1 ∨ d.f0 < c.f0 ∧ c.f0 < d.f1 ∧ d.f1 < c.f1)
theorem crossP_comm (c d : Ch) : crossP c d = crossP d c := by unfold crossP; rw [decide_eq_decide]; omega
theorem crossing_eq (c d : Ch) : impl_crossing.f c.f0 c.f1 d.f0 d.f1 = some (crossP c d) := by
  unfold impl_crossing.f crossP
  repeat' split
  all_goals congr 1
  all_goals first | (symm; rw [decide_eq_true_iff]; omega) | (symm; rw [decide_eq_false_iff_not]; omega) | (rw [decide_eq_decide]; omega)
theorem crossS_eq {c d : Ch} (hc : c.f0 < c.f1) (hd : d.f0 < d.f1) : crossS c.f0 c.f1 d.f0 d.f1 = crossP c d := by
  unfold crossS crossP; rw [decide_eq_decide]; omega
def cntPairs : List Ch → Nat
  | [] => 0
  | c :: r => r.countP (crossP c) + cntPairs r
theorem cntPairs_snoc (l : List Ch) (c : Ch) : cntPairs (l ++ [c]) = cntPairs l + l.countP (crossP c) := by
  induction l with
  | nil => rfl
  | cons d l ih =>
    simp only [List.cons_append, cntPairs, ih, List.countP_append, List.countP_cons, List.countP_nil]
    rw [crossP_comm c d]; omega
theorem cntPairs_le (l : List Ch) : cntPairs l ≤ l.length * l.length := by
  induction l with
  | nil => exact Nat.le_refl _
  | cons c l ih =>
    have := List.countP_le_length (p := crossP c) (l := l)
    simp only [cntPairs, List.length_cons, Nat.add_mul, Nat.mul_add]; omega
theorem crossed_l0 (l : List Ch) (c : Ch) (hn : l.length ≤ 1000000) : ∀ (d i x : Nat), i + d = l.length → x ≤ i →
    Ev (fun k => impl_crossed.l0 k (x : Int) l (l.length : Int) (i : Int) c.f0 c.f1) ((x + (l.drop i).countP (crossP c) : Nat) : Int) := by
  intro d
  induction d with
  | zero =>
    intro i x hd hx
    refine Ev.some_ fun k => ?_
    simp only [impl_crossed.l0]
    rw [if_neg (by omega), List.drop_eq_nil_of_le (by omega)]; rfl
  | succ d ih =>
    intro i x hd hx
    have hi : i < l.length := by omega
    rw [List.drop_eq_getElem_cons hi, List.countP_cons]
    cases hc : crossP c l[i] with
    | true =>
      refine Ev.step (f := fun k => impl_crossed.l0 k ((x + 1 : Nat) : Int) l (l.length : Int) ((i + 1 : Nat) : Int) c.f0 c.f1) (fun k => ?_) (ev_eq (ih (i + 1) (x + 1) (by omega) (by omega)) (by simp; omega))
      simp only [impl_crossed.l0]
      rw [if_pos (by omega), if_pos (by omega), if_pos (by omega), rdT_at hi, crossing_eq, Option.bind_some, hc, if_pos rfl, w64 hi (by omega), w64 (show x < l.length by omega) (by omega)]
    | false =>
      refine Ev.step (f := fun k => impl_crossed.l0 k (x : Int) l (l.length : Int) ((i + 1 : Nat) : Int) c.f0 c.f1) (fun k => ?_) (ev_eq (ih (i + 1) x (by omega) (by omega)) (by simp))
      simp only [impl_crossed.l0]
      rw [if_pos (by omega), if_pos (by omega), if_pos (by omega), rdT_at hi, crossing_eq, Option.bind_some, hc, if_neg (by simp), w64 hi (by omega)]
theorem crossed_ev (l : List Ch) (c : Ch) (hn : l.length ≤ 1000000) : Ev (fun k => impl_crossed.f k l c.f0 c.f1) (l.countP (crossP c) : Int) := by
  unfold impl_crossed.f
  exact ev_eq (crossed_l0 l c hn l.length 0 0 (by omega) (by omega)) (by simp)
theorem crossings_l0 (l : List Ch) (hn : l.length ≤ 1000000) : ∀ (d i : Nat), i + d = l.length →
    Ev (fun k => impl_crossings.l0 k l (cntPairs (l.take i) : Int) l (l.length : Int) (i : Int)) (cntPairs l : Int) := by
  intro d
  induction d with
  | zero =>
    intro i hd
    refine Ev.some_ fun k => ?_
    simp only [impl_crossings.l0]
    rw [if_neg (by omega), List.take_of_length_le (by omega)]
  | succ d ih =>
    intro i hd
    have hi : i < l.length := by omega
    have h1 : ∀ k, impl_crossings.l0 (k + 1) l (cntPairs (l.take i) : Int) l (l.length : Int) (i : Int) = (impl_crossed.f k (l.take i) l[i].f0 l[i].f1).bind fun t => impl_crossings.l0 k l (wrap64 ((cntPairs (l.take i) : Int) + t)) l (l.length : Int) ((i + 1 : Nat) : Int) := by
      intro k
      simp only [impl_crossings.l0]
      rw [if_pos (by omega), if_pos (by omega), if_pos (by omega), if_pos (by omega), rdT_at hi, w64 hi (by omega), Int.toNat_natCast]
    refine Ev.step h1 (Ev.bind (crossed_ev (l.take i) l[i] (by rw [List.length_take]; omega)) ?_)
    have h2 := cntPairs_le (l.take i)
    have h3 := List.countP_le_length (p := crossP l[i]) (l := l.take i)
    have h4 : (l.take i).length * (l.take i).length ≤ 1000000 * 1000000 := Nat.mul_le_mul (by rw [List.length_take]; omega) (by rw [List.length_take]; omega)
    rw [List.length_take] at h3
    have h5 : wrap64 ((cntPairs (l.take i) : Int) + ((l.take i).countP (crossP l[i]) : Int)) = (cntPairs (l.take (i + 1)) : Int) := by
      rw [List.take_succ_eq_append_getElem hi, cntPairs_snoc, w64s (by omega) (by omega)]; omega
    rw [h5]
    exact ih (i + 1) (by omega)
theorem crossings_ev (l : List Ch) (hn : l.length ≤ 1000000) : Ev (fun k => impl_crossings.f k l) (cntPairs l : Int) := by
  unfold impl_crossings.f
  exact crossings_l0 l hn l.length 0 (by omega)
/-! ### the pairs, as_ the reference lists them -/
def rowP (c : Ch) (i : Nat) : List Ch → Nat → List (List Int)
  | [], _ => []
  | d :: r, j => (if crossS c.f0 c.f1 d.f0 d.f1 = true then [[(i : Int), (j : Int)]] else []) ++ rowP c i r (j + 1)
def allP : List Ch → Nat → List (List Int)
  | [], _ => []
  | c :: r, i => rowP c i r (i + 1) ++ allP r (i + 1)
theorem rowP_length {c : Ch} (i : Nat) (hc : c.f0 < c.f1) : ∀ (l : List Ch) (j : Nat), (∀ d ∈ l, d.f0 < d.f1) → (rowP c i l j).length = l.countP (crossP c)
  | [], _, _ => rfl
  | d :: l, j, h => by
    have hd := h d List.mem_cons_self
    simp only [rowP, List.length_append, rowP_length i hc l (j + 1) (fun x hx => h x (List.mem_cons_of_mem _ hx)), List.countP_cons, crossS_eq hc hd]
    cases crossP c d <;> simp <;> omega
theorem rowP_le {c : Ch} (i : Nat) : ∀ (l : List Ch) (j : Nat), (rowP c i l j).length ≤ l.length
  | [], _ => Nat.le_refl _
  | d :: l, j => by
    have := rowP_le (c := c) i l (j + 1)
    simp only [rowP, List.length_append, List.length_cons]
    split <;> simp <;> omega
theorem allP_length : ∀ (l : List Ch) (i : Nat), (∀ d ∈ l, d.f0 < d.f1) → (allP l i).length = cntPairs l
  | [], _, _ => rfl
  | c :: l, i, h => by
    simp only [allP, List.length_append, cntPairs, allP_length l (i + 1) (fun x hx => h x (List.mem_cons_of_mem _ hx)), rowP_length i (h c List.mem_cons_self) l (i + 1) (fun x hx => h x (List.mem_cons_of_mem _ hx))]
theorem cdPairs_l1 (l : List Ch) (hn : l.length ≤ 1000000) (c : Ch) (i : Nat) (hi : i < l.length) (R : List (List Int)) (x : List (List Int)) (hx : ∀ m, m ≤ l.length → x.length + m ≤ 5000000000000)
    (hnext : Ev (fun k => spec_cdPairs.l0 k l (x ++ rowP c i (l.drop (i + 1)) (i + 1)) l (l.length : Int) ((i + 1 : Nat) : Int)) R) : ∀ (d j : Nat) (y : List (List Int)), j + d = l.length → y ++ rowP c i (l.drop j) j = x ++ rowP c i (l.drop (i + 1)) (i + 1) → y.length ≤ x.length + j →
    Ev (fun k => spec_cdPairs.l1 k l y (i : Int) (j : Int) l (l.length : Int) (i : Int) c.f0 c.f1) R := by
  intro d
  induction d with
  | zero =>
    intro j y hd hy _
    have hj : l.drop j = [] := List.drop_eq_nil_of_le (by omega)
    rw [hj] at hy
    simp only [rowP, List.append_nil] at hy
    refine Ev.step (f := fun k => spec_cdPairs.l0 k l y l (l.length : Int) ((i + 1 : Nat) : Int)) (fun k => ?_) (by rw [hy]; exact hnext)
    simp only [spec_cdPairs.l1]
    rw [if_neg (by omega), w64 hi (by omega)]
  | succ d ih =>
    intro j y hd hy hyl
    have hj : j < l.length := by omega
    rw [List.drop_eq_getElem_cons hj] at hy
    simp only [rowP] at hy
    cases hc : crossS c.f0 c.f1 l[j].f0 l[j].f1 with
    | true =>
      refine Ev.step (f := fun k => spec_cdPairs.l1 k l (y ++ [[(i : Int), (j : Int)]]) (i : Int) ((j + 1 : Nat) : Int) l (l.length : Int) (i : Int) c.f0 c.f1) (fun k => ?_) (ih (j + 1) (y ++ [[(i : Int), (j : Int)]]) (by omega) (by rw [← hy, hc, if_pos rfl, List.append_assoc]) (by simp; omega))
      have := hx j (by omega)
      simp only [spec_cdPairs.l1]
      rw [if_pos (by omega), if_pos (by omega), rdT_at hj]
      simp only [spec_srCross.f, Option.bind_some, hc, if_true]
      rw [if_pos (by omega), w64 hj (by omega)]
    | false =>
      refine Ev.step (f := fun k => spec_cdPairs.l1 k l y (i : Int) ((j + 1 : Nat) : Int) l (l.length : Int) (i : Int) c.f0 c.f1) (fun k => ?_) (ih (j + 1) y (by omega) (by rw [← hy, hc, if_neg (by simp), List.nil_append]) (by omega))
      simp only [spec_cdPairs.l1]
      rw [if_pos (by omega), if_pos (by omega), rdT_at hj]
      simp only [spec_srCross.f, Option.bind_some, hc, Bool.false_eq_true, if_false]
      rw [w64 hj (by omega)]
theorem cdPairs_l0 (l : List Ch) (hn : l.length ≤ 1000000) : ∀ (d i : Nat) (x : List (List Int)), i + d = l.length → x.length ≤ i * l.length →
    Ev (fun k => spec_cdPairs.l0 k l x l (l.length : Int) (i : Int)) (x ++ allP (l.drop i) i) := by
  intro d
  induction d with
  | zero =>
    intro i x hd hx
    refine Ev.some_ fun k => ?_
    simp only [spec_cdPairs.l0]
    rw [if_neg (by omega), List.drop_eq_nil_of_le (by omega)]
    simp [allP]
  | succ d ih =>
    intro i x hd hx
    have hi : i < l.length := by omega
    have hm : i * l.length ≤ 1000000 * 1000000 := Nat.mul_le_mul (by omega) (by omega)
    refine Ev.step (f := fun k => spec_cdPairs.l1 k l x (i : Int) ((i + 1 : Nat) : Int) l (l.length : Int) (i : Int) l[i].f0 l[i].f1) (fun k => ?_) ?_
    · simp only [spec_cdPairs.l0]
      rw [if_pos (by omega), if_pos (by omega), if_pos (by omega), rdT_at hi, w64 hi (by omega)]
    · rw [List.drop_eq_getElem_cons hi]
      simp only [allP]
      rw [← List.append_assoc]
      refine cdPairs_l1 l hn l[i] i hi _ x (fun m hm' => by omega) ?_ d (i + 1) x (by omega) rfl (by omega)
      refine ih (i + 1) _ (by omega) ?_
      have := rowP_le (c := l[i]) i (l.drop (i + 1)) (i + 1)
      rw [List.length_drop] at this
      rw [List.length_append, Nat.add_mul]; omega
theorem cdPairs_ev (l : List Ch) (hn : l.length ≤ 1000000) : Ev (fun k => spec_cdPairs.f k l) (allP l 0) := by
  unfold spec_cdPairs.f
  exact ev_eq (cdPairs_l0 l hn l.length 0 [] (by omega) (by simp)) (by simp)
theorem good_len {n : Int} {l : List Ch} (h : goodSet n l = true) : l.length ≤ 40 := by unfold goodSet at h; simp at h; exact h.2
theorem good_n {n : Int} {l : List Ch} (h : goodSet n l = true) : 3 ≤ n ∧ n ≤ 60 := by unfold goodSet at h; simp at h; exact h.1.1
theorem chk_ok {n : Int} : ∀ {l : List Ch} {p : Option Ch}, chk n p l = true → ∀ c ∈ l, 0 ≤ c.f0 ∧ c.f0 < c.f1 ∧ c.f1 < n
  | [], _, _, c, hc => by simp at hc
  | d :: l, p, h, c, hc => by
    simp only [chk, Bool.and_eq_true] at h
    rcases List.mem_cons.1 hc with rfl | hc
    · simpa [chOk] using h.1.1
    · exact chk_ok h.2 c hc
theorem good_ok {n : Int} {l : List Ch} (h : goodSet n l = true) : ∀ c ∈ l, 0 ≤ c.f0 ∧ c.f0 < c.f1 ∧ c.f1 < n := by
  unfold goodSet at h; simp only [Bool.and_eq_true] at h; exact chk_ok h.1.2
/-- A plane set. -/
def plane (n : Int) (l : List Ch) : Bool := goodSet n l && decide (cntPairs l = 0)
theorem rePlane_ev (n : Int) (l : List Ch) (hn : l.length ≤ 4611686018427387904) : Ev (fun k => spec_rePlane.f k n l) (plane n l) := by
  unfold spec_rePlane.f plane
  refine Ev.bind (cdGood_ev n l (by omega)) ?_
  cases hg : goodSet n l with
  | false => exact ev_eq (Ev.congr (fun k => by rw [if_neg (by simp)]) (Ev.now false)) (by simp)
  | true =>
    refine Ev.congr (f := fun k => (spec_cdPairs.f k l).bind fun t => some ((t.length : Int) == 0)) (fun k => by rw [if_pos rfl]) ?_
    refine Ev.bind (cdPairs_ev l (by have := good_len hg; omega)) (ev_eq (Ev.now _) ?_)
    rw [allP_length l 0 (fun d hd => (good_ok hg d hd).2.1)]
    simp; rw [Bool.eq_iff_iff]; simp
/-! ### slices.Compare -/
def lexCmp : List Int → List Int → Int
  | [], [] => 0
  | [], _ :: _ => -1
  | _ :: _, [] => 1
  | x :: xs, y :: ys => if x < y then -1 else if x > y then 1 else lexCmp xs ys
theorem lexCmp_neg : ∀ xs ys : List Int, lexCmp xs ys < 0 ↔ lexLt xs ys = true
  | [], [] => by simp [lexCmp, lexLt]
  | [], _ :: _ => by simp [lexCmp, lexLt]
  | _ :: _, [] => by simp [lexCmp, lexLt]
  | x :: xs, y :: ys => by
    by_cases h : x < y
    · simp [lexCmp, lexLt, h, show ¬ x = y by omega]
    · by_cases h2 : x > y
      · simp [lexCmp, lexLt, h, h2, show ¬ x = y by omega]
      · have e : x = y := by omega
        subst e
        simpa [lexCmp, lexLt] using lexCmp_neg xs ys
theorem lexCmp_lt (xs ys : List Int) : decide (lexCmp xs ys < 0) = lexLt xs ys := by
  rw [Bool.eq_iff_iff, decide_eq_true_iff]; exact lexCmp_neg xs ys
theorem compare_l0 (xs ys : List Int) (hn : xs.length ≤ 1000000) : ∀ (d i : Nat), i + d = xs.length → i ≤ ys.length →
    Ev (fun k => slices_Compare_int_int.l0 k xs ys xs (xs.length : Int) (i : Int)) (lexCmp (xs.drop i) (ys.drop i)) := by
  intro d
  induction d with
  | zero =>
    intro i hd hy
    refine Ev.some_ fun k => ?_
    simp only [slices_Compare_int_int.l0]
    rw [if_neg (by omega), List.drop_eq_nil_of_le (show xs.length ≤ i by omega)]
    by_cases h : i = ys.length
    · rw [if_neg (by omega), List.drop_eq_nil_of_le (show ys.length ≤ i by omega)]; rfl
    · rw [if_pos (by omega), List.drop_eq_getElem_cons (show i < ys.length by omega)]; rfl
  | succ d ih =>
    intro i hd hy
    have hi : i < xs.length := by omega
    rw [List.drop_eq_getElem_cons hi]
    by_cases h : i = ys.length
    · refine Ev.some_ fun k => ?_
      simp only [slices_Compare_int_int.l0]
      rw [if_pos (by omega), if_pos (by omega), if_pos (by omega), if_pos (by omega), List.drop_eq_nil_of_le (show ys.length ≤ i by omega)]; rfl
    · have hj : i < ys.length := by omega
      rw [List.drop_eq_getElem_cons hj]
      have h1 : ∀ k, slices_Compare_int_int.l0 (k + 1) xs ys xs (xs.length : Int) (i : Int) = if (if xs[i] < ys[i] then (-1 : Int) else if xs[i] > ys[i] then 1 else 0) = 0 then slices_Compare_int_int.l0 k xs ys xs (xs.length : Int) ((i + 1 : Nat) : Int) else some (if xs[i] < ys[i] then (-1 : Int) else if xs[i] > ys[i] then 1 else 0) := by
        intro k
        simp only [slices_Compare_int_int.l0]
        rw [if_pos (by omega), if_pos (by omega), if_pos (by omega), if_neg (by omega), if_pos (by omega), rd_at hi, rd_at hj, cmpInt_eq, Option.bind_some, w64 hi (by omega)]
      refine Ev.step h1 ?_
      simp only [lexCmp]
      by_cases h3 : xs[i] < ys[i]
      · simp only [h3, if_true]
        exact Ev.const (fun k => by simp)
      · by_cases h4 : xs[i] > ys[i]
        · simp only [h3, h4, if_true, if_false]
          exact Ev.const (fun k => by simp)
        · simp only [h3, h4, if_true, if_false]
          exact ih (i + 1) (by omega) (by omega)
theorem compare_ev (xs ys : List Int) (hn : xs.length ≤ 1000000) : Ev (fun k => slices_Compare_int_int.f k xs ys) (lexCmp xs ys) := by
  unfold slices_Compare_int_int.f
  exact compare_l0 xs ys hn xs.length 0 (by omega) (by omega)
/-! ### regionInside -/
/-- The farthest point to which a chord leads from 'at_'. -/
def nextOf (hi : Int) (ex : Option Ch) (at_ : Int) : List Ch → Int → Int
  | [], nx => nx
  | d :: r, nx => nextOf hi ex at_ r (if d.f0 = at_ ∧ d.f1 ≤ hi ∧ nx < d.f1 ∧ ¬ some d = ex then d.f1 else nx)
/-- From 'at_' to the last point. -/
def fw (l : List Ch) (hi : Int) (ex : Option Ch) : Nat → Int → List Int × List Ch × List Int
  | 0, _ => ([], [], [])
  | n + 1, at_ => if at_ < hi then (if nextOf hi ex at_ l at_ > at_ then
      (nextOf hi ex at_ l at_ :: (fw l hi ex n (nextOf hi ex at_ l at_)).1, ⟨at_, nextOf hi ex at_ l at_⟩ :: (fw l hi ex n (nextOf hi ex at_ l at_)).2.1, (fw l hi ex n (nextOf hi ex at_ l at_)).2.2)
      else ((at_ + 1) :: (fw l hi ex n (at_ + 1)).1, (fw l hi ex n (at_ + 1)).2.1, at_ :: (fw l hi ex n (at_ + 1)).2.2)) else ([], [], [])
def exOf (c : Ch) (b : Bool) : Option Ch := if b = true then some c else none
def regionOf (l : List Ch) (c : Ch) (b : Bool) : List Int × List Ch × List Int :=
  (c.f0 :: (fw l c.f1 (exOf c b) (c.f1 - c.f0).toNat c.f0).1, (if b = true then [c] else []) ++ (fw l c.f1 (exOf c b) (c.f1 - c.f0).toNat c.f0).2.1, (if b = true then [] else [c.f1]) ++ (fw l c.f1 (exOf c b) (c.f1 - c.f0).toNat c.f0).2.2)
theorem nextOf_ge (hi : Int) (ex : Option Ch) (at_ : Int) : ∀ (l : List Ch) (nx : Int), nx ≤ nextOf hi ex at_ l nx
  | [], _ => Int.le_refl _
  | d :: l, nx => by
    simp only [nextOf]
    split
    · rename_i h; exact Int.le_trans (Int.le_of_lt h.2.2.1) (nextOf_ge hi ex at_ l _)
    · exact nextOf_ge hi ex at_ l nx
theorem nextOf_le (hi : Int) (ex : Option Ch) (at_ : Int) : ∀ (l : List Ch) (nx : Int), nx ≤ hi → nextOf hi ex at_ l nx ≤ hi
  | [], _, h => h
  | d :: l, nx, h => by
    simp only [nextOf]
    split
    · rename_i h2; exact nextOf_le hi ex at_ l _ h2.2.1
    · exact nextOf_le hi ex at_ l nx h
theorem exOf_iff (c d : Ch) (b : Bool) : some d = exOf c b ↔ b = true ∧ d = c := by
  unfold exOf; cases b <;> simp
theorem inside_l1 (l : List Ch) (c : Ch) (b : Bool) (hn : l.length ≤ 1000) (at_ : Int) (xs : List Int) (cs : List Ch) (as_ : List Int) (R : List Int × List Ch × List Int)
    (hnext : Ev (fun k => if nextOf c.f1 (exOf c b) at_ l at_ > at_ then (if cs.length < 8796093022208 then (if xs.length < 17592186044416 then impl_regionInside.l0 k l b (nextOf c.f1 (exOf c b) at_ l at_) c.f0 c.f1 (xs ++ [nextOf c.f1 (exOf c b) at_ l at_]) (cs ++ [⟨at_, nextOf c.f1 (exOf c b) at_ l at_⟩]) as_ else none) else none) else (if as_.length < 17592186044416 then (if xs.length < 17592186044416 then impl_regionInside.l0 k l b (wrap64 (at_ + 1)) c.f0 c.f1 (xs ++ [wrap64 (at_ + 1)]) cs (as_ ++ [at_]) else none) else none)) R) : ∀ (d i : Nat) (nx : Int), i + d = l.length → nextOf c.f1 (exOf c b) at_ (l.drop i) nx = nextOf c.f1 (exOf c b) at_ l at_ →
    Ev (fun k => impl_regionInside.l1 k l b at_ nx l (l.length : Int) (i : Int) c.f0 c.f1 xs cs as_) R := by
  intro d
  induction d with
  | zero =>
    intro i nx hd hnx
    rw [List.drop_eq_nil_of_le (by omega)] at hnx
    simp only [nextOf] at hnx
    rw [← hnx] at hnext
    refine Ev.step (fun k => ?_) hnext
    simp only [impl_regionInside.l1]
    rw [if_neg (by omega)]
  | succ d ih =>
    intro i nx hd hnx
    have hi : i < l.length := by omega
    rw [List.drop_eq_getElem_cons hi] at hnx
    simp only [nextOf] at hnx
    refine Ev.step (f := fun k => impl_regionInside.l1 k l b at_ (if l[i].f0 = at_ ∧ l[i].f1 ≤ c.f1 ∧ nx < l[i].f1 ∧ ¬ some l[i] = exOf c b then l[i].f1 else nx) l (l.length : Int) ((i + 1 : Nat) : Int) c.f0 c.f1 xs cs as_) (fun k => ?_) (ih (i + 1) _ (by omega) hnx)
    simp only [impl_regionInside.l1]
    rw [if_pos (by omega), if_pos (by omega), if_pos (by omega), rdT_at hi, w64 hi (by omega)]
    by_cases h1 : l[i].f0 = at_
    · by_cases h2 : l[i].f1 ≤ c.f1
      · by_cases h3 : l[i].f1 > nx
        · rw [if_pos h1, if_pos h2, if_pos h3]
          cases b with
          | false =>
            rw [if_neg (by simp), if_pos ⟨h1, h2, h3, by rw [exOf_iff]; simp⟩]
          | true =>
            rw [if_pos rfl]
            by_cases h4 : l[i] = c
            · rw [if_pos (by rw [h4]; simp), if_neg (fun h => h.2.2.2 (by rw [exOf_iff]; exact ⟨rfl, h4⟩))]
            · rw [if_neg (fun h => h4 (by simp at h; exact ch_ext h.1 h.2)), if_pos ⟨h1, h2, h3, by rw [exOf_iff]; exact fun h => h4 h.2⟩]
        · rw [if_pos h1, if_pos h2, if_neg h3, if_neg (fun h => h3 h.2.2.1)]
      · rw [if_pos h1, if_neg h2, if_neg (fun h => h2 h.2.1)]
    · rw [if_neg h1, if_neg (fun h => h1 h.1)]
theorem inside_l0 (l : List Ch) (c : Ch) (b : Bool) (hn : l.length ≤ 1000) (h0 : 0 ≤ c.f0) (h60 : c.f1 ≤ 1000) : ∀ (m n : Nat) (at_ : Int) (xs : List Int) (cs : List Ch) (as_ : List Int), n ≤ m → (c.f1 - at_).toNat ≤ n → c.f0 ≤ at_ → xs.length + n ≤ 10000 → cs.length + n ≤ 10000 → as_.length + n ≤ 10000 →
    Ev (fun k => impl_regionInside.l0 k l b at_ c.f0 c.f1 xs cs as_) (xs ++ (fw l c.f1 (exOf c b) n at_).1, cs ++ (fw l c.f1 (exOf c b) n at_).2.1, as_ ++ (fw l c.f1 (exOf c b) n at_).2.2) := by
  intro m
  induction m with
  | zero =>
    intro n at_ xs cs as_ hm hn' h1 _ _ _
    obtain rfl : n = 0 := by omega
    refine Ev.some_ fun k => ?_
    simp only [impl_regionInside.l0]
    rw [if_neg (by omega)]
    simp [fw]
  | succ m ih =>
    intro n at_ xs cs as_ hm hn' h1 hx hc ha
    by_cases hlt : at_ < c.f1
    · obtain ⟨n, rfl⟩ : ∃ j, n = j + 1 := ⟨n - 1, by omega⟩
      have h2 := nextOf_le c.f1 (exOf c b) at_ l at_ (by omega)
      refine Ev.step (f := fun k => impl_regionInside.l1 k l b at_ at_ l (l.length : Int) 0 c.f0 c.f1 xs cs as_) (fun k => ?_) (inside_l1 l c b hn at_ xs cs as_ _ ?_ l.length 0 at_ (by omega) rfl)
      · simp only [impl_regionInside.l0]
        rw [if_pos hlt]
      · simp only [fw]
        rw [if_pos hlt]
        by_cases hg : nextOf c.f1 (exOf c b) at_ l at_ > at_
        · simp only [hg, if_true]
          refine Ev.congr (fun k => by rw [if_pos (by omega), if_pos (by omega)]) ?_
          refine ev_eq (ih n (nextOf c.f1 (exOf c b) at_ l at_) _ _ _ (by omega) (by omega) (by omega) (by simp; omega) (by simp; omega) (by omega)) ?_
          simp
        · simp only [hg, if_false]
          refine Ev.congr (fun k => by rw [if_pos (by omega), if_pos (by omega), w64s (x := at_ + 1) (by omega) (by omega)]) ?_
          refine ev_eq (ih n (at_ + 1) _ _ _ (by omega) (by omega) (by omega) (by simp; omega) (by omega) (by simp; omega)) ?_
          simp
    · refine Ev.some_ fun k => ?_
      simp only [impl_regionInside.l0]
      rw [if_neg hlt]
      cases n with
      | zero => simp [fw]
      | succ n => simp only [fw]; rw [if_neg hlt]; simp
theorem inside_ev (l : List Ch) (c : Ch) (b : Bool) (hn : l.length ≤ 1000) (h0 : 0 ≤ c.f0) (h60 : c.f1 ≤ 1000) : Ev (fun k => impl_regionInside.f k l c.f0 c.f1 b) (regionOf l c b) := by
  unfold impl_regionInside.f
  simp only [Option.bind_some]
  have h := fun (cs : List Ch) (as_ : List Int) (h1 : cs.length ≤ 1) (h2 : as_.length ≤ 1) => inside_l0 l c b hn h0 h60 _ (c.f1 - c.f0).toNat c.f0 [c.f0] cs as_ (Nat.le_refl _) (Nat.le_refl _) (Int.le_refl _) (by simp; omega) (by omega) (by omega)
  cases b with
  | true =>
    refine Ev.congr (f := fun k => impl_regionInside.j0 k l true c.f0 c.f1 [c.f0] [c] []) (fun k => by rw [if_pos rfl, if_pos (by simp)]; rfl) ?_
    exact Ev.step (fun k => by simp only [impl_regionInside.j0]) (ev_eq (h [c] [] (by simp) (by simp)) rfl)
  | false =>
    refine Ev.congr (f := fun k => impl_regionInside.j0 k l false c.f0 c.f1 [c.f0] [] [c.f1]) (fun k => by rw [if_neg (by simp), if_pos (by simp)]; rfl) ?_
    exact Ev.step (fun k => by simp only [impl_regionInside.j0]) (ev_eq (h [] [c.f1] (by simp) (by simp)) rfl)
end Go.Proofs.Yteeghncofacmhaa.Q
end
section
/- A row of rows of whole numbers that the call itself has made, told by its pairs: the row's value and its list. No program is walked here. -/
namespace Go.Proofs.Yteeghncofacmhaa.Q
open Go.RowKit Go.Proofs.YteeghncofacmhaaW.PrintWords Go.Proofs.YteeghncofacmhaaW.PrintLast Go.Proofs.YteeghncofacmhaaW.PrintMore
set_option linter.unusedVariables false
theorem new_block (W : World) (o : Obj) : (W.alloc o).heap[W.heap.size]? = some o := by show (W.heap.push o)[W.heap.size]? = _; simp
theorem new_cell (W : World) (cs : Array Value) (t : TypeId) (j : Nat) : (W.alloc (.cells cs t)).cell? ⟨W.heap.size, j, none⟩ = cs[j]? := blk_cell (new_block W (.cells cs t)) j
/-- The rows themselves: each of the call's own, no two in one block. -/
def RowsP (W : World) (B : Nat) (ps : List (Value × List Int)) : Prop :=
  (∀ p ∈ ps, (Kd.int .i64).R 3 W B (fun _ => True) p.1 p.2) ∧ ps.Pairwise (fun p q => ∀ k, p.1.ownBlock = some k → q.1.ownBlock ≠ some k)
/-- The row that holds them. -/
def RowsO (W : World) (B : Nat) (v : Value) (ps : List (Value × List Int)) : Prop := (Kd.raw 1).R 24 W B (fun _ => True) v (ps.map fun p => [p.1])
theorem RowsP.below {W W1 : World} {B : Nat} {ps : List (Value × List Int)} (h : RowsP W B ps) (hb : Below W.heap.size W W1) : RowsP W1 B ps :=
  ⟨fun p hp => Kd.R_below (h.1 p hp) hb, h.2⟩
theorem RowsO.below {W W1 : World} {B : Nat} {v : Value} {ps : List (Value × List Int)} (h : RowsO W B v ps) (hb : Below W.heap.size W W1) : RowsO W1 B v ps := Kd.R_below h hb
theorem RowsP.lt {W : World} {B : Nat} {ps : List (Value × List Int)} (h : RowsP W B ps) {p : Value × List Int} (hp : p ∈ ps) {k : Nat} (hk : p.1.ownBlock = some k) : k < W.heap.size := Kd.R_lt (h.1 p hp) k hk
theorem RowsP.perm {W : World} {B : Nat} {ps qs : List (Value × List Int)} (h : RowsP W B ps) (hp : ps.Perm qs) : RowsP W B qs :=
  ⟨fun p hq => h.1 p (hp.mem_iff.2 hq), (hp.pairwise_iff (fun {a b} hab k hk he => hab k he hk)).1 h.2⟩
theorem RowsP.sub {W : World} {B : Nat} {ps qs : List (Value × List Int)} (h : RowsP W B ps) (hp : qs.Sublist ps) : RowsP W B qs :=
  ⟨fun p hq => h.1 p (hp.subset hq), h.2.sublist hp⟩
theorem RowsP.one {W : World} {B : Nat} {u : Value} {r : List Int} (h : (Kd.int .i64).R 3 W B (fun _ => True) u r) : RowsP W B [(u, r)] :=
  ⟨fun p hp => by rw [List.mem_singleton.1 hp]; exact h, List.pairwise_singleton _ _⟩
theorem oneR {W : World} {B : Nat} {u : Value} {r : List Int} (h : (Kd.int .i64).R 3 W B (fun _ => True) u r) : u.oneCell' = true := by
  obtain ⟨A, c, rfl⟩ := Kd.R_slice h; rfl
/-- One more row ahead of the others: its block is none of theirs. -/
theorem RowsP.cons {W : World} {B : Nat} {ps : List (Value × List Int)} (h : RowsP W B ps) {u : Value} {r : List Int} (hu : (Kd.int .i64).R 3 W B (fun _ => True) u r)
    (ha : ∀ p ∈ ps, ∀ k, u.ownBlock = some k → p.1.ownBlock ≠ some k) : RowsP W B ((u, r) :: ps) :=
  ⟨fun p hp => by 
    rcases List.mem_cons.1 hp with rfl | hp
    · exact hu
    · exact h.1 p hp, List.pairwise_cons.2 ⟨fun p hp => ha p hp, h.2⟩⟩
/-- A region is parted: the two new rows lie in blocks that are new, and apart. -/
theorem RowsP.parted {W0 W : World} {B : Nat} {ps : List (Value × List Int)} {i : Nat} (h : RowsP W0 B ps) (hb : Below W0.heap.size W0 W) {u1 u2 : Value} {r1 r2 : List Int}
    (h1 : (Kd.int .i64).R 3 W W0.heap.size (fun k => some k ≠ u2.ownBlock) u1 r1) (h2 : (Kd.int .i64).R 3 W W0.heap.size (fun k => some k ≠ u1.ownBlock) u2 r2) (hB : B ≤ W0.heap.size) :
    RowsP W B (ps.take i ++ [(u1, r1), (u2, r2)] ++ ps.drop (i + 1)) := by
  have hold : RowsP W B (ps.take i ++ ps.drop (i + 1)) := (h.sub (by
    have := List.Sublist.append (List.Sublist.refl (ps.take i)) (List.drop_sublist_drop_left ps (Nat.le_succ i))
    rwa [List.take_append_drop] at this)).below hb
  have e1 : ∀ p ∈ ps.take i ++ ps.drop (i + 1), ∀ k, p.1.ownBlock = some k → k < W0.heap.size := fun p hp k hk => by
    have hm : p ∈ ps := by
      rcases List.mem_append.1 hp with hp | hp
      · exact List.mem_of_mem_take hp
      · exact List.mem_of_mem_drop hp
    exact h.lt hm hk
  have h2' := hold.cons (u := u2) (r := r2) (Kd.R_mono (Kd.R_lower h2 hB) (fun _ _ => trivial)) (fun p hp k hk he => by have := e1 p hp k he; have := Kd.R_base h2 k hk; omega)
  have h3' := h2'.cons (u := u1) (r := r1) (Kd.R_mono (Kd.R_lower h1 hB) (fun _ _ => trivial)) (fun p hp k hk he => by
    rcases List.mem_cons.1 hp with rfl | hp
    · exact h2.1 k he hk.symm
    · have := e1 p hp k he; have := Kd.R_base h1 k hk; omega)
  refine h3'.perm ?_
  rw [List.append_assoc]
  exact (List.perm_append_comm_assoc [(u1, r1), (u2, r2)] (ps.take i) (ps.drop (i + 1))).trans (List.Perm.refl _)
/-- A row of rows that holds one row, as_ a literal lays it. -/
theorem RowsO.one {W : World} {B : Nat} (u : Value) (r : List Int) (h1 : u.oneCell' = true) (hB : B ≤ W.heap.size) :
    RowsO (W.alloc (.cells #[u] 24)) B (.slice (some ⟨W.heap.size, 0, none⟩) 1 1) [(u, r)] := by
  refine ⟨fun _ _ => trivial, [u], World.ownsRow_lit W #[u] 1 hB (by decide) rfl, Reps.one (⟨rfl, rfl, fun x hx => by rw [List.mem_singleton.1 hx]; exact h1⟩) (Reps.none _ _)⟩
theorem RowsO.slice {W : World} {B : Nat} {v : Value} {ps : List (Value × List Int)} (h : RowsO W B v ps) : ∃ A c, v = .slice A ps.length c ∧ ps.length ≤ c ∧ (Kd.raw 1).C W A ps.length (ps.map fun p => [p.1]) := by
  obtain ⟨A, c, he, hl, hc⟩ := Kd.R_reads h
  rw [List.length_map] at he hl hc
  exact ⟨A, c, he, hl, hc⟩
/-- One of the rows, as_ it is read. -/
theorem RowsO.get {W : World} {B : Nat} {A : Option Addr} {n : Nat} {ps : List (Value × List Int)} (hP : RowsP W B ps) (hC : (Kd.raw 1).C W A n (ps.map fun p => [p.1])) (i : Nat) (hi : i < ps.length) (hn : n = ps.length) :
    ∃ ad A0 c0, A = some ad ∧ W.cell? (ad.add i) = some (.slice A0 (ps[i].2).length c0) ∧ ps[i].1 = .slice A0 (ps[i].2).length c0 ∧ (ps[i].2).length ≤ c0 ∧ (Kd.int .i64).C W A0 (ps[i].2).length ps[i].2 := by
  subst hn
  obtain ⟨ad, cs, e, hl, hK, hc⟩ := Kd.C_get hC [] (i : Int) (by omega) (by omega)
  obtain ⟨A0, c0, he, hl0, hC0⟩ := Kd.R_reads (hP.1 ps[i] (List.getElem_mem hi))
  have h1 : (ps.map fun p => [p.1]).getD (i : Int).toNat [] = [ps[i].1] := by
    simp [List.getD_eq_getElem?_getD, List.getElem?_map, List.getElem?_eq_getElem hi]
  rw [h1] at hK
  obtain ⟨rfl, _, _⟩ := hK
  refine ⟨ad, A0, c0, e, ?_, he, hl0, hC0⟩
  have := hc 0 ps[i].1 rfl
  rw [he] at this
  simpa [Kd.raw] using this
/-- As the print tells such a row: no two of its rows lie in one block. -/
theorem RowsO.S {W : World} {B : Nat} {v : Value} {ps : List (Value × List Int)} (hP : RowsP W B ps) (hO : RowsO W B v ps) : Kd.S (Kd.slice 3 (Kd.int .i64)) 24 W B (fun _ => True) v (ps.map Prod.snd) := by
  obtain ⟨_, inner, ho, hr⟩ := id hO
  have hty : ∀ k, v.ownBlock = some k → ∃ cells, W.heap[k]? = some (.cells cells 24 (0, 0)) := fun k hk => Kd.R_typed hO k hk
  refine ⟨fun k => ps.findIdx (fun p => decide (p.1.ownBlock = some k)), fun _ _ => trivial, inner, ?_, ?_, ?_⟩
  · have hl : (ps.map fun p => [p.1]).length = (ps.map Prod.snd).zipIdx.length := by simp
    rw [← hl]; exact ho
  · rw [hr.1]; simp [Kd.tag, Kd.slice, Kd.raw]
  · intro j p hj
    rw [List.getElem?_zipIdx, List.getElem?_map] at hj
    rcases Nat.lt_or_ge j ps.length with hlt | hge
    · rw [List.getElem?_eq_getElem hlt] at hj
      simp only [Option.map_some, Option.some.injEq] at hj
      subst hj
      have h2 := hr.2 j [ps[j].1] (by rw [List.getElem?_map, List.getElem?_eq_getElem hlt]; rfl)
      obtain ⟨h3, _, _⟩ := h2
      have h4 : ((inner.drop (j * 1)).take 1) = [ps[j].1] := h3
      show ∃ u, _ = [u] ∧ _
      refine ⟨ps[j].1, h4, ?_⟩
      have hR := hP.1 ps[j] (List.getElem_mem hlt)
      have hR1 := Kd.R_apart' (v := v) hR hty (by decide)
      have hR2 := Kd.R_tight rfl hR1
      refine Kd.R_mono hR2 (fun k hk => ⟨⟨trivial, fun he => ?_⟩, ?_⟩)
      · exact (hR1.1 k hk.symm).2 he
      · show ps.findIdx _ = 0 + j
        rw [Nat.zero_add, List.findIdx_eq hlt]
        refine ⟨by simpa using hk.symm, fun i hi => ?_⟩
        have := List.pairwise_iff_getElem.1 hP.2 i j (by omega) hlt hi
        simp only [decide_eq_false_iff_not]
        intro he
        exact this k he hk.symm
    · rw [List.getElem?_eq_none hge] at hj; cases hj
/-- 'xs[m:]' of a row of one cell each, the capacity's case aside. -/
theorem cut_row {P : Program} (t e : TypeId) {i : TypeInfo} (ht : P.underlying t = some (.slice e)) (hi : P.info? e = some i) (hsz : i.size = 1) (A : Option Addr) (n c m : Nat) (hm : m ≤ n) (hc : n ≤ c) :
    ∃ A' : Option Addr, (∀ W : World, (Instr.slice t (.slice A n c) (some (.int .i64 (m : Int))) none none).run P W = .ok (.slice A' (n - m) (c - m)) W) ∧
      ∀ {α : Type} (d : Kd α) (W : World) (xs : List α), d.sz = 1 → d.C W A n xs → d.C W A' (n - m) (xs.drop m) := by
  refine ⟨if c = m then A else A.map (·.add m), fun W => ?_, fun d W xs hd h => ?_⟩
  · have hel : P.elem t = e := by simp [Program.elem, ht]
    have hu : P.underlying t = some (.slice (P.elem t)) := by rw [hel]; exact ht
    rw [run_slice_l W t A n c hu .i64 (m : Int) (Int.natCast_nonneg _) (by omega), hel]
    simp [sizeOf, typeInfo, hi, hsz, sliced, Result.andThen]
  · have hn : xs.length = n := h.1
    subst hn
    have := Kd.C_drop h hm hc
    rw [hd, Nat.mul_one] at this
    rwa [List.length_drop] at this
theorem cut_row' {P : Program} (t e : TypeId) {i : TypeInfo} (ht : P.underlying t = some (.slice e)) (hi : P.info? e = some i) (hsz : i.size = 1) (A : Option Addr) (n c m : Nat) (z : Int) (hz : z = (m : Int)) (hm : m ≤ n) (hc : n ≤ c) :
    ∃ A' : Option Addr, (∀ W : World, (Instr.slice t (.slice A n c) (some (.int .i64 z)) none none).run P W = .ok (.slice A' (n - m) (c - m)) W) ∧
      ∀ {α : Type} (d : Kd α) (W : World) (xs : List α), d.sz = 1 → d.C W A n xs → d.C W A' (n - m) (xs.drop m) := by
  subst hz
  exact cut_row t e ht hi hsz A n c m hm hc
/-- 'xs[:m]', whatever the address. -/
theorem take_cut {P : Program} (t e : TypeId) {i : TypeInfo} (ht : P.underlying t = some (.slice e)) (hi : P.info? e = some i) (hsz : i.size = 1) (A : Option Addr) (n c m : Nat) (z : Int) (hz : z = (m : Int)) (hm : m ≤ c) :
    ∀ W : World, (Instr.slice t (.slice A n c) none (some (.int .i64 z)) none).run P W = .ok (.slice A m c) W := by
  subst hz
  intro W
  have hel : P.elem t = e := by simp [Program.elem, ht]
  have hu : P.underlying t = some (.slice (P.elem t)) := by rw [hel]; exact ht
  rw [run_slice_h W t A n c hu .i64 (m : Int) (Int.natCast_nonneg _) (by omega), hel]
  cases A <;> simp [sizeOf, typeInfo, hi, hsz, sliced, Result.andThen, Addr.add]
theorem take_row {α : Type} (d : Kd α) {W : World} {A : Option Addr} {n m : Nat} {xs : List α} (h : d.C W A n xs) (hm : m ≤ n) : d.C W A m (xs.take m) := by
  have hn : xs.length = n := h.1
  subst hn
  have := Kd.C_take h hm
  rwa [List.length_take, Nat.min_eq_left hm] at this
theorem below_alloc2 {w W : World} (h : Below w.heap.size w W) (o : Obj) : Below w.heap.size w (W.alloc o) := h.alloc h.size o
/-- Two values in a new block, read as_ a row. -/
theorem two_row (W : World) (u1 u2 : Value) (t : TypeId) (h1 : u1.oneCell' = true) (h2 : u2.oneCell' = true) : (Kd.raw 1).C (W.alloc (.cells #[u1, u2] t)) (some ⟨W.heap.size, 0, none⟩) 2 [[u1], [u2]] := by
  have h : (Kd.raw 1).R t (W.alloc (.cells #[u1, u2] t)) 0 (fun _ => True) (.slice (some ⟨W.heap.size, 0, none⟩) 2 2) [[u1], [u2]] :=
    ⟨fun _ _ => trivial, [u1, u2], World.ownsRow_lit W #[u1, u2] 2 (Nat.zero_le _) (by decide) rfl, Reps.one ⟨rfl, rfl, fun x hx => by rw [List.mem_singleton.1 hx]; exact h1⟩ (Reps.one ⟨rfl, rfl, fun x hx => by rw [List.mem_singleton.1 hx]; exact h2⟩ (Reps.none _ _))⟩
  exact (Kd.R_reads' h).2.2
theorem one_row (W : World) (u1 : Value) (t : TypeId) (h1 : u1.oneCell' = true) : (Kd.raw 1).C (W.alloc (.cells #[u1] t)) (some ⟨W.heap.size, 0, none⟩) 1 [[u1]] := by
  have h : (Kd.raw 1).R t (W.alloc (.cells #[u1] t)) 0 (fun _ => True) (.slice (some ⟨W.heap.size, 0, none⟩) 1 1) [[u1]] :=
    ⟨fun _ _ => trivial, [u1], World.ownsRow_lit W #[u1] 1 (Nat.zero_le _) (by decide) rfl, Reps.one ⟨rfl, rfl, fun x hx => by rw [List.mem_singleton.1 hx]; exact h1⟩ (Reps.none _ _)⟩
  exact (Kd.R_reads' h).2.2
theorem none_row (W : World) (B : Nat) (t : TypeId) (hB : B ≤ W.heap.size) : (Kd.raw 1).R t (W.alloc (.cells #[] t)) B (fun _ => True) (.slice (some ⟨W.heap.size, 0, none⟩) 0 0) [] :=
  ⟨fun _ _ => trivial, [], World.ownsRow_lit W #[] 0 hB (by decide) rfl, Reps.none _ _⟩
end Go.Proofs.Yteeghncofacmhaa.Q
end
section
/- spec.reList by hand: what it computes, and that the machine computes it. -/
namespace Go.Proofs.Yteeghncofacmhaa.Q
open Go.RowKit Go.Proofs.YteeghncofacmhaaW.PrintWords Go.Proofs.YteeghncofacmhaaW.PrintLast Go.Proofs.YteeghncofacmhaaW.PrintMore
attribute [local go_sem] max2_int min2_int max_two min_two max_three min_three max_four min_four
def reIn (a b : Int) (r : List Int) : List Int := r.filter fun p => decide (a ≤ p ∧ p ≤ b)
def reOut (a b : Int) (r : List Int) : List Int := r.filter fun p => decide (p ≤ a ∨ b ≤ p)
def reHit (a b : Int) (r : List Int) : Bool := r.contains a && r.contains b
/-- A chord parts the first region that has both its points. -/
def reStep (rs : List (List Int)) (c : S64) : List (List Int) :=
  match rs.findIdx? (reHit c.f0 c.f1) with
  | none => rs
  | some i => rs.take i ++ [reIn c.f0 c.f1 (rs.getD i []), reOut c.f0 c.f1 (rs.getD i [])] ++ rs.drop (i + 1)
/-- The place of a region among those in order: behind all that are not greater, from the end. -/
def rePos (r : List Int) (out : List (List Int)) : Nat := out.length - (out.reverse.takeWhile (fun q => lexLt r q)).length
def rePut (out : List (List Int)) (r : List Int) : List (List Int) := out.take (rePos r out) ++ [r] ++ out.drop (rePos r out)
def reRegions (n : Nat) (l : List S64) : List (List Int) := (l.foldl reStep [(List.range n).map Int.ofNat]).foldl rePut []
def spec_reList.f (a0 : Int) (l1 : List S64) : Option (List (List Int)) := if a0 ≤ 60 ∧ l1.length ≤ 40 then some (reRegions a0.toNat l1) else none
theorem reStep_len {m : Nat} {rs : List (List Int)} (h : ∀ r ∈ rs, r.length ≤ m) (c : S64) : ∀ r ∈ reStep rs c, r.length ≤ m := by
  unfold reStep
  cases hf : rs.findIdx? (reHit c.f0 c.f1) with
  | none => exact h
  | some i =>
    have hi : i < rs.length := (List.findIdx?_eq_some_iff_findIdx_eq.1 hf).1
    intro r hr
    have hg : (rs.getD i []).length ≤ m := by
      rw [List.getD_eq_getElem?_getD, List.getElem?_eq_getElem hi]
      exact h _ (List.getElem_mem hi)
    simp only [List.mem_append, List.mem_cons, List.not_mem_nil, or_false] at hr
    rcases hr with (hr | rfl | rfl) | hr
    · exact h r (List.mem_of_mem_take hr)
    · exact Nat.le_trans (List.length_filter_le _ _) hg
    · exact Nat.le_trans (List.length_filter_le _ _) hg
    · exact h r (List.mem_of_mem_drop hr)
theorem reSteps_len {m : Nat} (l : List S64) : ∀ {rs : List (List Int)}, (∀ r ∈ rs, r.length ≤ m) → ∀ r ∈ l.foldl reStep rs, r.length ≤ m := by
  induction l with
  | nil => exact fun h => h
  | cons c l ih => exact fun h => ih (reStep_len h c)
theorem reStep_at {ps : List (Value × List Int)} {i : Nat} (hi : i < ps.length) (c : S64) (hno : ∀ q ∈ ps.take i, reHit c.f0 c.f1 q.2 = false) (hh : reHit c.f0 c.f1 ps[i].2 = true) (u1 u2 : Value) :
    reStep (ps.map Prod.snd) c = (ps.take i ++ [(u1, reIn c.f0 c.f1 ps[i].2), (u2, reOut c.f0 c.f1 ps[i].2)] ++ ps.drop (i + 1)).map Prod.snd := by
  have hf : (ps.map Prod.snd).findIdx? (reHit c.f0 c.f1) = some i := by
    rw [List.findIdx?_eq_some_iff_getElem]
    refine ⟨by simpa using hi, by simpa using hh, fun j hj => ?_⟩
    have hm : ps[j] ∈ ps.take i := List.mem_iff_getElem.2 ⟨j, by simp; omega, by simp⟩
    simpa using hno _ hm
  unfold reStep
  rw [hf]
  simp [List.map_take, List.map_drop, List.getD_eq_getElem?_getD, List.getElem?_map, List.getElem?_eq_getElem hi]
theorem reStep_no {ps : List (Value × List Int)} (c : S64) (hno : ∀ q ∈ ps, reHit c.f0 c.f1 q.2 = false) : reStep (ps.map Prod.snd) c = ps.map Prod.snd := by
  have hf : (ps.map Prod.snd).findIdx? (reHit c.f0 c.f1) = none := by
    rw [List.findIdx?_eq_none_iff]
    intro x hx
    obtain ⟨q, hq, rfl⟩ := List.mem_map.1 hx
    exact hno q hq
  unfold reStep
  rw [hf]
theorem rePos_eq {r : List Int} {qs : List (List Int)} {t : Nat} (ht : t ≤ qs.length) (hall : ∀ x ∈ qs.drop t, lexLt r x = true) (hlast : ∀ s, t = s + 1 → lexLt r (qs.getD s []) = false) : rePos r qs = t := by
  have h1 : qs.reverse = (qs.drop t).reverse ++ (qs.take t).reverse := by rw [← List.reverse_append, List.take_append_drop]
  have h2 : ((qs.take t).reverse.takeWhile (fun q => lexLt r q)) = [] := by
    rcases Nat.eq_zero_or_pos t with h0 | h0
    · subst h0; rfl
    · obtain ⟨s, rfl⟩ : ∃ s, t = s + 1 := ⟨t - 1, by omega⟩
      have hs : s < qs.length := by omega
      rw [List.take_succ_eq_append_getElem hs, List.reverse_append]
      have := hlast s rfl
      rw [List.getD_eq_getElem?_getD, List.getElem?_eq_getElem hs] at this
      simp only [List.reverse_cons, List.reverse_nil, List.nil_append, List.cons_append]
      rw [List.takeWhile_cons_of_neg]
      simpa using this
  unfold rePos
  rw [h1, List.takeWhile_append_of_pos (fun x hx => hall x (List.mem_reverse.1 hx)), h2, List.append_nil, List.length_reverse, List.length_drop]
  omega
theorem rePut_at {ps : List (Value × List Int)} {r : List Int} {t : Nat} (ht : t ≤ ps.length) (hall : ∀ x ∈ ps.drop t, lexLt r x.2 = true) (hlast : ∀ s (hs : s < ps.length), t = s + 1 → lexLt r ps[s].2 = false) (u : Value) :
    rePut (ps.map Prod.snd) r = (ps.take t ++ [(u, r)] ++ ps.drop t).map Prod.snd := by
  unfold rePut
  rw [rePos_eq (t := t) (by simpa using ht) (fun x hx => by
    rw [← List.map_drop] at hx
    obtain ⟨q, hq, rfl⟩ := List.mem_map.1 hx
    exact hall q hq) (fun s hs => by
    have hsl : s < ps.length := by omega
    rw [List.getD_eq_getElem?_getD, List.getElem?_map, List.getElem?_eq_getElem hsl]
    exact hlast s hsl hs)]
  simp [List.map_take, List.map_drop]
theorem take_foldl {α : Type} {f : α → S64 → α} {l : List S64} {j : Nat} (hj : j < l.length) {c : S64} (hc : rd_T64 l (j : Int) = c) {x : α} : f ((l.take j).foldl f x) c = (l.take (j + 1)).foldl f x := by
  have h1 : l[j] = c := by
    rw [← hc]; simp [rd_T64, List.getD_eq_getElem?_getD, List.getElem?_eq_getElem hj]
  rw [List.take_succ_eq_append_getElem hj, List.foldl_append, h1]; rfl
set_option linter.unusedVariables false
set_option maxHeartbeats 8000000 in
set_option maxRecDepth 100000 in
theorem spec_reList.calls (a0 : Int) (A1 : Option Addr) (c1 : Nat) (l1 : List S64) (r : List (List Int)) (w : World) (hr1 : Kd.C k64 w A1 l1.length l1) (hc1 : l1.length ≤ c1) (h : spec_reList.f a0 l1 = some r) :
    Calls Try.prog 57 #[.int .i64 a0, .slice A1 l1.length c1] w fun e w' => ∃ v0_ : Value, e = .returned (v0_) ∧ Kd.S (Kd.slice 3 (Kd.int .i64)) 24 w' w.heap.size (fun _ => True) v0_ r ∧ Below w.heap.size w w' := by
  have hu64 := Try.underlying64
  have HR1 := Aside0.mk hr1
  have HC1 := Aside0.mk hc1
  clear hr1 hc1
  unfold spec_reList.f at h
  have hb : a0 ≤ 60 ∧ l1.length ≤ 40 := by
    by_cases hb : a0 ≤ 60 ∧ l1.length ≤ 40
    · exact hb
    · rw [if_neg hb] at h; cases h
  rw [if_pos hb] at h
  have H := Aside0.mk (Option.some.inj h)
  clear h
  obtain ⟨hb0, hb1⟩ := hb
  have HB1 := Aside0.mk hb1
  clear hb1
  go_enter Try.func57, Try.ntmps57
  go_wp2
  go_loopw [5, 6] (fun v5 v6 wr => ∃ k : Nat, v6 = .int .i64 (k : Int) ∧ Aside0 (k ≤ a0.toNat) ∧ Aside0 ((Kd.int .i64).R 3 wr w.heap.size (fun _ => True) v5 ((List.range k).map Int.ofNat)) ∧ Aside0 (Below w.heap.size w wr)) (fun _ v6 _ => a0.toNat - (intOf v6).toNat)
  case atStart => exact ⟨0, rfl, ⟨Nat.zero_le _⟩, ⟨Kd.R_nil _ _ _ _ _⟩, ⟨Below.refl _ _⟩⟩
  case round =>
    obtain ⟨k, rfl, hk, HO, HB⟩ := hrel
    replace hk := hk.out
    by_cases hlt : (k : Int) < a0
    · have hl : decide ((k : Int) < a0) = true := decide_eq_true hlt
      go_wp2_with (((with_reducible refine gate_builtin (b := .append) (xs := #[.tmp 27, .tmp 29]) rfl ?_); at_builtin; refine Kd.R_append (Kd.int .i64) (w0 := w) w.heap.size rfl (.tmp 27) (.tmp 29) 24 3 (.int .i64 0) 8 rfl Try.underlying24 info3 rfl (by decide) (by omega) _ ((List.range k).map Int.ofNat) (k : Int) [.int .i64 (k : Int)] (fun _ => True) (fun _ => False) rfl rfl rfl (fun _ hk => hk.elim) (fun _ _ => trivial) HO.out HB.out HB.out.size ?aL ?_; (case aL => simp; omega); intro v1 w1 ho1 hb1 hg1 ha1; have HO1 := Aside0.mk ho1; have HB1 := Aside0.mk hb1; clear ho1 hb1 hg1 ha1))
      go_roundw
      case rel => exact ⟨k + 1, by go_num, ⟨by omega⟩, ⟨by rw [List.range_succ, List.map_append]; exact HO1.out⟩, HB1⟩
      case measure => simp [intOf]; omega
    · have hl : decide ((k : Int) < a0) = false := decide_eq_false hlt
      have hk2 := Aside0.mk (show k = a0.toNat by omega)
      clear hlt hk
      have hrg : ∃ rg : List Int, rg = (List.range k).map Int.ofNat := ⟨_, rfl⟩
      obtain ⟨rg, hrg⟩ := hrg
      rw [← hrg] at HO
      replace hrg := Aside0.mk hrg
      obtain ⟨A5, c5, e5⟩ := Kd.R_slice HO.out
      subst e5
      go_wp2_with fail
      have P0 : RowsP wr w.heap.size [(.slice A5 rg.length c5, rg)] := RowsP.one HO.out
      have O1 := Aside0.mk (RowsO.one (W := wr) (B := w.heap.size) (.slice A5 rg.length c5) rg rfl HB.out.size)
      have P1 := Aside0.mk (P0.below (below_alloc (Below.refl _ _) (.cells #[.slice A5 rg.length c5] 24)))
      have B1 := Aside0.mk (HB.out.alloc HB.out.size (.cells #[.slice A5 rg.length c5] 24))
      clear P0
      clear HO HB
      go_loopw [7, 35] (fun v7 v35 wr => ∃ (j : Nat) (ps : List (Value × List Int)), v35 = .int .i64 (j : Int) ∧ Aside0 (j ≤ l1.length) ∧ Aside0 (ps.map Prod.snd = (l1.take j).foldl reStep [rg]) ∧ Aside0 (ps.length ≤ j + 1) ∧ Aside0 (RowsP wr w.heap.size ps) ∧ Aside0 (RowsO wr w.heap.size v7 ps) ∧ Aside0 (Below w.heap.size w wr)) (fun _ v35 _ => l1.length - (intOf v35).toNat)
      case atStart => exact ⟨0, _, rfl, ⟨Nat.zero_le _⟩, ⟨rfl⟩, ⟨Nat.le_refl _⟩, P1, O1, B1⟩
      case round =>
        clear P1 O1 B1 hl
        obtain ⟨j, ps, rfl, hj, hps, hpl, HP, HO, HB⟩ := hrel
        replace hj := hj.out
        have hb2 := HB1.out
        obtain ⟨A7, c7, e7, hc7, HC⟩ := HO.out.slice
        subst e7
        replace hc7 := Aside0.mk hc7
        replace HC := Aside0.mk HC
        by_cases hlt : j < l1.length
        · have hl : decide ((j : Int) < (l1.length : Int)) = true := decide_eq_true (by omega)
          obtain ⟨ad, ea, hx0, hx1⟩ := at_T64 HR1.out (j : Int) (by omega) (by omega)
          cases ea
          replace hx0 := (HB.out.cell (World.block_lt_of_cell? w _ hx0)).trans hx0
          replace hx1 := (HB.out.cell (World.block_lt_of_cell? w _ hx1)).trans hx1
          rw [Int.toNat_natCast] at hx0 hx1
          generalize hc : rd_T64 l1 (j : Int) = ch at hx0 hx1
          replace hc := Aside0.mk hc
          go_wp2_with fail
          have hgB : w.heap.size ≤ wr.heap.size := HB.out.size
          have k0 : (wr.alloc (.cells #[.int .i64 ch.f0, .int .i64 ch.f1] 64)).cell? ⟨wr.heap.size, 0, none⟩ = some (.int .i64 ch.f0) := new_cell _ _ _ 0
          have k1 : (wr.alloc (.cells #[.int .i64 ch.f0, .int .i64 ch.f1] 64)).cell? ⟨wr.heap.size, 1, none⟩ = some (.int .i64 ch.f1) := new_cell _ _ _ 1
          have kz : wr.heap.size < (wr.alloc (.cells #[.int .i64 ch.f0, .int .i64 ch.f1] 64)).heap.size := by simp
          have kb : Below wr.heap.size wr (wr.alloc (.cells #[.int .i64 ch.f0, .int .i64 ch.f1] 64)) := (Below.refl _ _).alloc (Nat.le_refl _) _
          generalize wr.alloc (.cells #[.int .i64 ch.f0, .int .i64 ch.f1] 64) = wc at k0 k1 kz kb ⊢
          have HPc := Aside0.mk (HP.out.below kb)
          have HOc := Aside0.mk (HO.out.below kb)
          have HCc := Aside0.mk (Kd.C_below HC.out kb)
          have HBc := Aside0.mk (below_then HB.out hgB kb)
          have K0 := Aside0.mk k0
          have K1 := Aside0.mk k1
          have KB := Aside0.mk kb
          clear k0 k1 kb hx0 hx1 HP HO HC HB
          generalize wr.heap.size = g at hgB kz K0 K1 KB ⊢
          go_loopw [7, 41] (fun v7 v41 wi => ∃ i : Nat, v7 = .slice A7 ps.length c7 ∧ v41 = .int .i64 (i : Int) ∧ Aside0 (i ≤ ps.length) ∧ Aside0 (∀ q ∈ ps.take i, reHit ch.f0 ch.f1 q.2 = false) ∧ Aside0 (Below wc.heap.size wc wi)) (fun _ v41 _ => ps.length - (intOf v41).toNat)
          case atStart => exact ⟨0, rfl, rfl, ⟨Nat.zero_le _⟩, ⟨fun q hq => by simp at hq⟩, ⟨Below.refl _ _⟩⟩
          case round =>
            obtain ⟨i, rfl, rfl, hi, hno, HW⟩ := hrel
            replace hi := hi.out
            have hpl3 := hpl.out
            by_cases hlt3 : i < ps.length
            · have hl3 : decide ((i : Int) < (ps.length : Int)) = true := decide_eq_true (by omega)
              obtain ⟨ad7, A0, c0, ea7, hcell, hv0, hl0, hC0⟩ := RowsO.get (HPc.out.below HW.out) (Kd.C_below HCc.out HW.out) i hlt3 rfl
              cases ea7
              have k0 := (HW.out.cell (World.block_lt_of_cell? wc _ K0.out)).trans K0.out
              have k1 := (HW.out.cell (World.block_lt_of_cell? wc _ K1.out)).trans K1.out
              have ht : ps.take (i + 1) = ps.take i ++ [ps[i]] := List.take_succ_eq_append_getElem hlt3
              replace ht := Aside0.mk ht
              generalize hp : ps[i] = pi at hcell hv0 hl0 hC0 ht
              replace hp := Aside0.mk hp
              have hp60 : pi.2.length ≤ 60 := by
                have h1 : pi.2 ∈ ps.map Prod.snd := List.mem_map.2 ⟨pi, by rw [← hp.out]; exact List.getElem_mem hlt3, rfl⟩
                rw [hps.out] at h1
                have h2 := reSteps_len (m := rg.length) (l1.take j) (rs := [rg]) (fun r hr => by rw [List.mem_singleton.1 hr]; exact Nat.le_refl _) pi.2 h1
                have h3 : rg.length = k := by rw [hrg.out]; simp
                have := hk2.out
                omega
              have hn62 : pi.2.length ≤ 4611686018427387904 := by omega
              have hq0 : Calls Try.prog 69 #[.slice A0 pi.2.length c0, .int .i64 ch.f0] wr fun e w'' => e = .returned (.bool (pi.2.contains ch.f0)) ∧ Drawn0 wr w'' :=
                spec_l1Has.calls _ _ _ _ _ _ _ hC0 hl0 (l1Has_ev pi.2 ch.f0 hn62)
              have hq1 : ∀ n, Calls Try.prog 69 #[.slice A0 pi.2.length c0, .int .i64 ch.f1] (wr.drewN n) fun e w'' => e = .returned (.bool (pi.2.contains ch.f1)) ∧ Drawn0 (wr.drewN n) w'' :=
                fun n => spec_l1Has.calls _ _ _ _ _ _ _ (Kd.C_drewN hC0 n) hl0 (l1Has_ev pi.2 ch.f1 hn62)
              have hhit : reHit ch.f0 ch.f1 pi.2 = (pi.2.contains ch.f0 && pi.2.contains ch.f1) := rfl
              generalize hb0 : pi.2.contains ch.f0 = b0 at hq0 hhit
              generalize hb1 : pi.2.contains ch.f1 = b1 at hq1 hhit
              clear hb0 hb1
              replace hhit := Aside0.mk hhit
              have hv0 := Aside0.mk hv0
              have hC0 := Aside0.mk hC0
              clear hn62
              replace hp60 := Aside0.mk hp60
              have hnext : Aside0 (reHit ch.f0 ch.f1 pi.2 = false → ∀ q ∈ ps.take (i + 1), reHit ch.f0 ch.f1 q.2 = false) := ⟨fun hh q hq => by
                rw [ht.out] at hq
                rcases List.mem_append.1 hq with hq | hq
                · exact hno.out q hq
                · rw [List.mem_singleton.1 hq]; exact hh⟩
              cases b0 with
              | false =>
                go_wp2_with (go_at_call 69; refine hq0.mono ?_; rintro e w' ⟨rfl, ⟨nd, rfl⟩⟩)
                go_roundw
                case rel => exact ⟨i + 1, rfl, by go_num, ⟨by omega⟩, ⟨hnext.out (by rw [hhit.out]; rfl)⟩, ⟨pw_below_drewN HW.out _⟩⟩
                case measure => simp [intOf]; omega
              | true =>
                cases b1 with
                | false =>
                  go_wp2_with fail
                  (with_reducible refine hq0.mono ?_)
                  rintro e w' ⟨rfl, ⟨nd, rfl⟩⟩
                  go_wp2_with fail
                  (with_reducible refine (hq1 _).mono ?_)
                  rintro e w' ⟨rfl, ⟨nd2, rfl⟩⟩
                  go_wp2_with fail
                  go_roundw
                  case rel => exact ⟨i + 1, rfl, by go_num, ⟨by omega⟩, ⟨hnext.out (by rw [hhit.out]; rfl)⟩, ⟨pw_below_drewN HW.out _⟩⟩
                  case measure => simp [intOf]; omega
                | true => 
                  go_wp2_with fail
                  (with_reducible refine hq0.mono ?_)
                  rintro e w' ⟨rfl, ⟨nd, rfl⟩⟩
                  go_wp2_with fail
                  (with_reducible refine (hq1 _).mono ?_)
                  rintro e w' ⟨rfl, ⟨nd2, rfl⟩⟩
                  go_wp2_with fail
                  have HWd : Below wc.heap.size wc (wr.drewN (nd + nd2)) := pw_below_drewN HW.out _
                  have hCd := Kd.C_drewN hC0.out (nd + nd2)
                  have k0d := (HWd.cell (World.block_lt_of_cell? wc _ K0.out)).trans K0.out
                  have k1d := (HWd.cell (World.block_lt_of_cell? wc _ K1.out)).trans K1.out
                  clear k0 k1 hcell hq0 hq1
                  generalize wr.drewN (nd + nd2) = wd at HWd hCd k0d k1d ⊢
                  replace HWd := Aside0.mk HWd
                  replace hCd := Aside0.mk hCd
                  replace k0d := Aside0.mk k0d
                  replace k1d := Aside0.mk k1d
                  go_loopw [12, 13, 60] (fun v12 v13 v60 we => ∃ q : Nat, v60 = .int .i64 (q : Int) ∧ Aside0 (q ≤ pi.2.length) ∧ Aside0 ((Kd.int .i64).R 3 we wd.heap.size (fun k_ => some k_ ≠ v13.ownBlock) v12 (reIn ch.f0 ch.f1 (pi.2.take q))) ∧ Aside0 ((Kd.int .i64).R 3 we wd.heap.size (fun k_ => some k_ ≠ v12.ownBlock) v13 (reOut ch.f0 ch.f1 (pi.2.take q))) ∧ Aside0 (Below wd.heap.size wd we)) (fun _ _ v60 _ => pi.2.length - (intOf v60).toNat)
                  case atStart => exact ⟨0, rfl, ⟨Nat.zero_le _⟩, ⟨Kd.R_nil _ _ _ _ _⟩, ⟨Kd.R_nil _ _ _ _ _⟩, ⟨Below.refl _ _⟩⟩
                  case round =>
                    obtain ⟨q, rfl, hq, HI, HU, HE⟩ := hrel
                    replace hq := hq.out
                    have hq60 := hp60.out
                    by_cases hlt4 : q < pi.2.length
                    · have hl4 : decide ((q : Int) < (pi.2.length : Int)) = true := decide_eq_true (by omega)
                      have hCe := Kd.C_below hCd.out HE.out
                      obtain ⟨ad0, ea0, hx⟩ := Kd.at_int hCe (q : Int) (by omega) (by omega)
                      cases ea0
                      rw [Int.toNat_natCast] at hx
                      rw [rd_at hlt4] at hx
                      have hts : pi.2.take (q + 1) = pi.2.take q ++ [pi.2[q]] := List.take_succ_eq_append_getElem hlt4
                      generalize pi.2[q] = x at hx hts
                      have hIn : reIn ch.f0 ch.f1 (pi.2.take (q + 1)) = reIn ch.f0 ch.f1 (pi.2.take q) ++ if ch.f0 ≤ x ∧ x ≤ ch.f1 then [x] else [] := by
                        rw [hts]; unfold reIn; rw [List.filter_append]; by_cases h : ch.f0 ≤ x ∧ x ≤ ch.f1 <;> simp [h]
                      have hOut : reOut ch.f0 ch.f1 (pi.2.take (q + 1)) = reOut ch.f0 ch.f1 (pi.2.take q) ++ if x ≤ ch.f0 ∨ ch.f1 ≤ x then [x] else [] := by
                        rw [hts]; unfold reOut; rw [List.filter_append]; by_cases h : x ≤ ch.f0 ∨ ch.f1 ≤ x <;> simp [h]
                      have hlI : (reIn ch.f0 ch.f1 (pi.2.take q)).length ≤ 60 := Nat.le_trans (List.length_filter_le _ _) (by rw [List.length_take]; omega)
                      have hlU : (reOut ch.f0 ch.f1 (pi.2.take q)).length ≤ 60 := Nat.le_trans (List.length_filter_le _ _) (by rw [List.length_take]; omega)
                      generalize reIn ch.f0 ch.f1 (pi.2.take q) = li at HI hIn hlI
                      generalize reOut ch.f0 ch.f1 (pi.2.take q) = lu at HU hOut hlU
                      have k0e := (HE.out.cell (World.block_lt_of_cell? wd _ k0d.out)).trans k0d.out
                      have k1e := (HE.out.cell (World.block_lt_of_cell? wd _ k1d.out)).trans k1d.out
                      replace hIn := Aside0.mk hIn
                      replace hOut := Aside0.mk hOut
                      clear hts hCe
                      have hcall : ∀ W b, decide (ch.f0 ≤ x ∧ x ≤ ch.f1) = b → Calls Try.prog 61 #[.int .i64 x, .int .i64 ch.f0, .int .i64 ch.f1] W fun e w'' => e = .returned (.bool b) ∧ Drawn0 W w'' := fun W b hb => spec_l1In.calls _ _ _ _ W (by rw [l1In_eq, hb])
                      by_cases h0 : ch.f0 ≤ x ∧ x ≤ ch.f1
                      · by_cases h1 : x ≤ ch.f0
                        · have b1 : decide (x ≤ ch.f0) = true := decide_eq_true h1
                          go_wp2_with fail
                          (with_reducible refine (hcall _ true (decide_eq_true h0)).mono ?_)
                          rintro e w' ⟨rfl, ⟨nd4, rfl⟩⟩
                          go_wp2_with (first | ((with_reducible refine gate_builtin (b := .append) (xs := #[.tmp 70, .tmp 72]) rfl ?_); at_builtin; refine Kd.R_append (Kd.int .i64) (w0 := wd) wd.heap.size rfl (.tmp 70) (.tmp 72) 24 3 (.int .i64 0) 8 rfl Try.underlying24 info3 rfl (by decide) (by omega) _ li x [.int .i64 x] (fun k_ => some k_ ≠ (u13 : Value).ownBlock) (fun _ => False) rfl rfl rfl (fun _ hk => hk.elim) ?aF ?aO ?aB ?aS ?aL ?_; (case aF => exact fun k_ hk_ => Kd.fresh' (Kd.R_lt (Kd.R_drewN HU.out nd4)) k_ hk_); (case aO => exact (Kd.R_drewN HI.out nd4)); (case aB => exact (pw_below_drewN HE.out nd4)); (case aS => exact ((pw_below_drewN HE.out nd4)).size); (case aL => omega); intro v5 w5 ho_ hb_ hg_ hat_; have hn_ := Kd.R_mono (ok' := fun k_ => some k_ ≠ (v5 : Value).ownBlock) (Kd.R_after (ok := fun _ => True) (Kd.R_mono (Kd.R_drewN HU.out nd4) (fun _ h => ⟨trivial, h⟩)) hg_ hat_) (fun _ h => h.2); have k05 := (hb_.cell (World.block_lt_of_cell? wd _ k0d.out)).trans k0d.out; have k15 := (hb_.cell (World.block_lt_of_cell? wd _ k1d.out)).trans k1d.out; have R5 := Aside0.mk ho_; have O5 := Aside0.mk hn_; have B5 := Aside0.mk hb_; clear ho_ hn_ hb_ hg_ hat_) | ((with_reducible refine gate_builtin (b := .append) (xs := #[.tmp 84, .tmp 86]) rfl ?_); at_builtin; refine Kd.R_append (Kd.int .i64) (w0 := wd) wd.heap.size rfl (.tmp 84) (.tmp 86) 24 3 (.int .i64 0) 8 rfl Try.underlying24 info3 rfl (by decide) (by omega) _ lu x [.int .i64 x] (fun k_ => some k_ ≠ (v5 : Value).ownBlock) (fun _ => False) rfl rfl rfl (fun _ hk => hk.elim) ?aF ?aO ?aB ?aS ?aL ?_; (case aF => exact fun k_ hk_ => Kd.fresh' (Kd.R_lt R5.out) k_ hk_); (case aO => exact O5.out); (case aB => exact B5.out); (case aS => exact (B5.out).size); (case aL => omega); intro v6 w6 ho_ hb_ hg_ hat_; have hn_ := Kd.R_mono (ok' := fun k_ => some k_ ≠ (v6 : Value).ownBlock) (Kd.R_after (ok := fun _ => True) (Kd.R_mono R5.out (fun _ h => ⟨trivial, h⟩)) hg_ hat_) (fun _ h => h.2); have k06 := (hb_.cell (World.block_lt_of_cell? wd _ k0d.out)).trans k0d.out; have k16 := (hb_.cell (World.block_lt_of_cell? wd _ k1d.out)).trans k1d.out; have R6 := Aside0.mk ho_; have O6 := Aside0.mk hn_; have B6 := Aside0.mk hb_; clear ho_ hn_ hb_ hg_ hat_))
                          go_roundw
                          case rel => exact ⟨q + 1, by go_num, ⟨by omega⟩, ⟨by rw [hIn.out, if_pos h0]; exact O6.out⟩, ⟨by rw [hOut.out, if_pos (by omega)]; exact R6.out⟩, B6⟩
                          case measure => simp [intOf]; omega
                        · by_cases h2 : ch.f1 ≤ x
                          · have b1 : decide (x ≤ ch.f0) = false := decide_eq_false h1
                            have b2 : decide (ch.f1 ≤ x) = true := decide_eq_true h2
                            have b3 : decide (x ≥ ch.f1) = true := decide_eq_true h2
                            go_wp2_with fail
                            (with_reducible refine (hcall _ true (decide_eq_true h0)).mono ?_)
                            rintro e w' ⟨rfl, ⟨nd4, rfl⟩⟩
                            go_wp2_with (first | ((with_reducible refine gate_builtin (b := .append) (xs := #[.tmp 70, .tmp 72]) rfl ?_); at_builtin; refine Kd.R_append (Kd.int .i64) (w0 := wd) wd.heap.size rfl (.tmp 70) (.tmp 72) 24 3 (.int .i64 0) 8 rfl Try.underlying24 info3 rfl (by decide) (by omega) _ li x [.int .i64 x] (fun k_ => some k_ ≠ (u13 : Value).ownBlock) (fun _ => False) rfl rfl rfl (fun _ hk => hk.elim) ?aF ?aO ?aB ?aS ?aL ?_; (case aF => exact fun k_ hk_ => Kd.fresh' (Kd.R_lt (Kd.R_drewN HU.out nd4)) k_ hk_); (case aO => exact (Kd.R_drewN HI.out nd4)); (case aB => exact (pw_below_drewN HE.out nd4)); (case aS => exact ((pw_below_drewN HE.out nd4)).size); (case aL => omega); intro v5 w5 ho_ hb_ hg_ hat_; have hn_ := Kd.R_mono (ok' := fun k_ => some k_ ≠ (v5 : Value).ownBlock) (Kd.R_after (ok := fun _ => True) (Kd.R_mono (Kd.R_drewN HU.out nd4) (fun _ h => ⟨trivial, h⟩)) hg_ hat_) (fun _ h => h.2); have k05 := (hb_.cell (World.block_lt_of_cell? wd _ k0d.out)).trans k0d.out; have k15 := (hb_.cell (World.block_lt_of_cell? wd _ k1d.out)).trans k1d.out; have R5 := Aside0.mk ho_; have O5 := Aside0.mk hn_; have B5 := Aside0.mk hb_; clear ho_ hn_ hb_ hg_ hat_) | ((with_reducible refine gate_builtin (b := .append) (xs := #[.tmp 84, .tmp 86]) rfl ?_); at_builtin; refine Kd.R_append (Kd.int .i64) (w0 := wd) wd.heap.size rfl (.tmp 84) (.tmp 86) 24 3 (.int .i64 0) 8 rfl Try.underlying24 info3 rfl (by decide) (by omega) _ lu x [.int .i64 x] (fun k_ => some k_ ≠ (v5 : Value).ownBlock) (fun _ => False) rfl rfl rfl (fun _ hk => hk.elim) ?aF ?aO ?aB ?aS ?aL ?_; (case aF => exact fun k_ hk_ => Kd.fresh' (Kd.R_lt R5.out) k_ hk_); (case aO => exact O5.out); (case aB => exact B5.out); (case aS => exact (B5.out).size); (case aL => omega); intro v6 w6 ho_ hb_ hg_ hat_; have hn_ := Kd.R_mono (ok' := fun k_ => some k_ ≠ (v6 : Value).ownBlock) (Kd.R_after (ok := fun _ => True) (Kd.R_mono R5.out (fun _ h => ⟨trivial, h⟩)) hg_ hat_) (fun _ h => h.2); have k06 := (hb_.cell (World.block_lt_of_cell? wd _ k0d.out)).trans k0d.out; have k16 := (hb_.cell (World.block_lt_of_cell? wd _ k1d.out)).trans k1d.out; have R6 := Aside0.mk ho_; have O6 := Aside0.mk hn_; have B6 := Aside0.mk hb_; clear ho_ hn_ hb_ hg_ hat_))
                            go_roundw
                            case rel => exact ⟨q + 1, by go_num, ⟨by omega⟩, ⟨by rw [hIn.out, if_pos h0]; exact O6.out⟩, ⟨by rw [hOut.out, if_pos (by omega)]; exact R6.out⟩, B6⟩
                            case measure => simp [intOf]; omega
                          · have b1 : decide (x ≤ ch.f0) = false := decide_eq_false h1
                            have b2 : decide (ch.f1 ≤ x) = false := decide_eq_false h2
                            have b3 : decide (x ≥ ch.f1) = false := decide_eq_false h2
                            go_wp2_with fail
                            (with_reducible refine (hcall _ true (decide_eq_true h0)).mono ?_)
                            rintro e w' ⟨rfl, ⟨nd4, rfl⟩⟩
                            go_wp2_with (((with_reducible refine gate_builtin (b := .append) (xs := #[.tmp 70, .tmp 72]) rfl ?_); at_builtin; refine Kd.R_append (Kd.int .i64) (w0 := wd) wd.heap.size rfl (.tmp 70) (.tmp 72) 24 3 (.int .i64 0) 8 rfl Try.underlying24 info3 rfl (by decide) (by omega) _ li x [.int .i64 x] (fun k_ => some k_ ≠ (u13 : Value).ownBlock) (fun _ => False) rfl rfl rfl (fun _ hk => hk.elim) ?aF ?aO ?aB ?aS ?aL ?_; (case aF => exact fun k_ hk_ => Kd.fresh' (Kd.R_lt (Kd.R_drewN HU.out nd4)) k_ hk_); (case aO => exact (Kd.R_drewN HI.out nd4)); (case aB => exact (pw_below_drewN HE.out nd4)); (case aS => exact ((pw_below_drewN HE.out nd4)).size); (case aL => omega); intro v5 w5 ho_ hb_ hg_ hat_; have hn_ := Kd.R_mono (ok' := fun k_ => some k_ ≠ (v5 : Value).ownBlock) (Kd.R_after (ok := fun _ => True) (Kd.R_mono (Kd.R_drewN HU.out nd4) (fun _ h => ⟨trivial, h⟩)) hg_ hat_) (fun _ h => h.2); have k05 := (hb_.cell (World.block_lt_of_cell? wd _ k0d.out)).trans k0d.out; have k15 := (hb_.cell (World.block_lt_of_cell? wd _ k1d.out)).trans k1d.out; have R5 := Aside0.mk ho_; have O5 := Aside0.mk hn_; have B5 := Aside0.mk hb_; clear ho_ hn_ hb_ hg_ hat_))
                            go_roundw
                            case rel => exact ⟨q + 1, by go_num, ⟨by omega⟩, ⟨by rw [hIn.out, if_pos h0]; exact R5.out⟩, ⟨by rw [hOut.out, if_neg (by omega), List.append_nil]; exact O5.out⟩, B5⟩
                            case measure => simp [intOf]; omega
                      · by_cases h1 : x ≤ ch.f0
                        · have b1 : decide (x ≤ ch.f0) = true := decide_eq_true h1
                          go_wp2_with fail
                          (with_reducible refine (hcall _ false (decide_eq_false h0)).mono ?_)
                          rintro e w' ⟨rfl, ⟨nd4, rfl⟩⟩
                          go_wp2_with (((with_reducible refine gate_builtin (b := .append) (xs := #[.tmp 84, .tmp 86]) rfl ?_); at_builtin; refine Kd.R_append (Kd.int .i64) (w0 := wd) wd.heap.size rfl (.tmp 84) (.tmp 86) 24 3 (.int .i64 0) 8 rfl Try.underlying24 info3 rfl (by decide) (by omega) _ lu x [.int .i64 x] (fun k_ => some k_ ≠ (u12 : Value).ownBlock) (fun _ => False) rfl rfl rfl (fun _ hk => hk.elim) ?aF ?aO ?aB ?aS ?aL ?_; (case aF => exact fun k_ hk_ => Kd.fresh' (Kd.R_lt (Kd.R_drewN HI.out nd4)) k_ hk_); (case aO => exact (Kd.R_drewN HU.out nd4)); (case aB => exact (pw_below_drewN HE.out nd4)); (case aS => exact ((pw_below_drewN HE.out nd4)).size); (case aL => omega); intro v6 w6 ho_ hb_ hg_ hat_; have hn_ := Kd.R_mono (ok' := fun k_ => some k_ ≠ (v6 : Value).ownBlock) (Kd.R_after (ok := fun _ => True) (Kd.R_mono (Kd.R_drewN HI.out nd4) (fun _ h => ⟨trivial, h⟩)) hg_ hat_) (fun _ h => h.2); have k06 := (hb_.cell (World.block_lt_of_cell? wd _ k0d.out)).trans k0d.out; have k16 := (hb_.cell (World.block_lt_of_cell? wd _ k1d.out)).trans k1d.out; have R6 := Aside0.mk ho_; have O6 := Aside0.mk hn_; have B6 := Aside0.mk hb_; clear ho_ hn_ hb_ hg_ hat_))
                          go_roundw
                          case rel => exact ⟨q + 1, by go_num, ⟨by omega⟩, ⟨by rw [hIn.out, if_neg h0, List.append_nil]; exact O6.out⟩, ⟨by rw [hOut.out, if_pos (by omega)]; exact R6.out⟩, B6⟩
                          case measure => simp [intOf]; omega
                        · by_cases h2 : ch.f1 ≤ x
                          · have b1 : decide (x ≤ ch.f0) = false := decide_eq_false h1
                            have b2 : decide (ch.f1 ≤ x) = true := decide_eq_true h2
                            have b3 : decide (x ≥ ch.f1) = true := decide_eq_true h2
                            go_wp2_with fail
                            (with_reducible refine (hcall _ false (decide_eq_false h0)).mono ?_)
                            rintro e w' ⟨rfl, ⟨nd4, rfl⟩⟩
                            go_wp2_with (((with_reducible refine gate_builtin (b := .append) (xs := #[.tmp 84, .tmp 86]) rfl ?_); at_builtin; refine Kd.R_append (Kd.int .i64) (w0 := wd) wd.heap.size rfl (.tmp 84) (.tmp 86) 24 3 (.int .i64 0) 8 rfl Try.underlying24 info3 rfl (by decide) (by omega) _ lu x [.int .i64 x] (fun k_ => some k_ ≠ (u12 : Value).ownBlock) (fun _ => False) rfl rfl rfl (fun _ hk => hk.elim) ?aF ?aO ?aB ?aS ?aL ?_; (case aF => exact fun k_ hk_ => Kd.fresh' (Kd.R_lt (Kd.R_drewN HI.out nd4)) k_ hk_); (case aO => exact (Kd.R_drewN HU.out nd4)); (case aB => exact (pw_below_drewN HE.out nd4)); (case aS => exact ((pw_below_drewN HE.out nd4)).size); (case aL => omega); intro v6 w6 ho_ hb_ hg_ hat_; have hn_ := Kd.R_mono (ok' := fun k_ => some k_ ≠ (v6 : Value).ownBlock) (Kd.R_after (ok := fun _ => True) (Kd.R_mono (Kd.R_drewN HI.out nd4) (fun _ h => ⟨trivial, h⟩)) hg_ hat_) (fun _ h => h.2); have k06 := (hb_.cell (World.block_lt_of_cell? wd _ k0d.out)).trans k0d.out; have k16 := (hb_.cell (World.block_lt_of_cell? wd _ k1d.out)).trans k1d.out; have R6 := Aside0.mk ho_; have O6 := Aside0.mk hn_; have B6 := Aside0.mk hb_; clear ho_ hn_ hb_ hg_ hat_))
                            go_roundw
                            case rel => exact ⟨q + 1, by go_num, ⟨by omega⟩, ⟨by rw [hIn.out, if_neg h0, List.append_nil]; exact O6.out⟩, ⟨by rw [hOut.out, if_pos (by omega)]; exact R6.out⟩, B6⟩
                            case measure => simp [intOf]; omega
                          · exact absurd (show ch.f0 ≤ x ∧ x ≤ ch.f1 by omega) h0
                    · have hl4 : decide ((q : Int) < (pi.2.length : Int)) = false := decide_eq_false (by omega)
                      obtain rfl : q = pi.2.length := by omega
                      clear hlt4
                      rw [List.take_length] at HI HU
                      obtain ⟨A12, c12, e12⟩ := Kd.R_slice HI.out
                      subst e12
                      obtain ⟨A13, c13, e13⟩ := Kd.R_slice HU.out
                      subst e13
                      generalize hli : reIn ch.f0 ch.f1 pi.2 = li at HI HU ⊢
                      generalize hlu : reOut ch.f0 ch.f1 pi.2 = lu at HI HU ⊢
                      have HPe := Aside0.mk (RowsP.parted (i := i) (HPc.out.below HWd.out) HE.out HI.out HU.out (Nat.le_trans HBc.out.size HWd.out.size))
                      have HCe := Aside0.mk (Kd.C_below (Kd.C_below HCc.out HWd.out) HE.out)
                      have HBe := Aside0.mk (below_then (below_then HBc.out HBc.out.size HWd.out) (Nat.le_trans HBc.out.size HWd.out.size) HE.out)
                      clear HI HU
                      obtain ⟨i0_, hi0_, hz0_⟩ := Option.map_eq_some_iff.1 info24
                      simp only [Prod.mk.injEq] at hz0_
                      obtain ⟨AD, hcut, hAD⟩ := cut_row (P := Try.prog) 37 24 Try.underlying37 hi0_ hz0_.2.1 (some ad7) ps.length c7 (i + 1) (by omega) hc7.out
                      clear hz0_ hi0_
                      have hic : i ≤ c7 := by have := hc7.out; omega
                      have hw1 : ((i + 1 : Nat) : Int) = (i : Int) + 1 := by omega
                      rw [hw1] at hcut
                      clear hw1
                      go_wp2_with (first | ((with_reducible refine gate_builtin (b := .append) (xs := #[.tmp 89, .tmp 92]) rfl ?_); at_builtin; refine Kd.R_append_rows (Kd.raw 1) (w0 := wr) wr.heap.size rfl (.tmp 89) (.tmp 92) 37 24 (.slice none 0 0) 24 rfl Try.underlying37 info24 rfl (by decide) (by omega) _ [] ((ps.map fun p => [p.1]).take i) _ _ _ (fun _ => True) (fun _ => False) rfl rfl (none_row wr wr.heap.size 24 (Nat.le_refl _)) (take_row _ (Kd.C_below HCe.out (below_alloc (Below.refl _ _) _)) (Nat.le_of_lt hlt3)) (fun _ _ h => h) (fun _ h => h.elim) (fun _ _ => trivial) (below_alloc (Below.refl _ _) _) (below_alloc (Below.refl _ _) _).size ?aL ?_; (case aL => simp; omega); intro v5 w5 ho_ hb_ hg_ hat_; have R5 := Aside0.mk ho_; have B5 := Aside0.mk hb_; clear ho_ hb_ hg_ hat_) | ((with_reducible refine gate_builtin (b := .append) (xs := #[.tmp 93, .tmp 96]) rfl ?_); at_builtin; refine Kd.R_append_rows (Kd.raw 1) (w0 := wr) wr.heap.size rfl (.tmp 93) (.tmp 96) 37 24 (.slice none 0 0) 24 rfl Try.underlying37 info24 rfl (by decide) (by omega) _ _ _ _ _ _ (fun _ => True) (fun _ => False) rfl rfl (Kd.R_alloc R5.out _) (two_row w5 (.slice A12 li.length c12) (.slice A13 lu.length c13) 24 rfl rfl) (fun _ _ h => h) (fun _ h => h.elim) (fun _ _ => trivial) (below_alloc2 B5.out _) (below_alloc2 B5.out _).size ?aL ?_; (case aL => simp; omega); intro v6 w6 ho_ hb_ hg_ hat_; have R6 := Aside0.mk ho_; have B6 := Aside0.mk hb_; clear ho_ hb_ hg_ hat_) | ((with_reducible refine gate_builtin (b := .append) (xs := #[.tmp 98, .tmp 102]) rfl ?_); at_builtin; refine Kd.R_append_rows (Kd.raw 1) (w0 := wr) wr.heap.size rfl (.tmp 98) (.tmp 102) 37 24 (.slice none 0 0) 24 rfl Try.underlying37 info24 rfl (by decide) (by omega) _ _ _ _ _ _ (fun _ => True) (fun _ => False) rfl rfl R6.out (hAD (Kd.raw 1) w6 (ps.map fun p => [p.1]) rfl (Kd.C_below HCe.out B6.out)) (fun _ _ h => h) (fun _ h => h.elim) (fun _ _ => trivial) B6.out B6.out.size ?aL ?_; (case aL => simp; omega); intro v7 w7 ho_ hb_ hg_ hat_; have R7 := Aside0.mk ho_; have B7 := Aside0.mk hb_; clear ho_ hb_ hg_ hat_))
                      have hstep : reStep (ps.map Prod.snd) ch = (ps.take i ++ [((.slice A12 li.length c12 : Value), li), (.slice A13 lu.length c13, lu)] ++ ps.drop (i + 1)).map Prod.snd := by
                        have h1 := reStep_at hlt3 ch hno.out (by rw [hp.out, hhit.out]; rfl) (.slice A12 li.length c12) (.slice A13 lu.length c13)
                        rw [hp.out, hli, hlu] at h1
                        exact h1
                      go_roundw
                      case rel => exact ⟨j + 1, ps.take i ++ [(.slice A12 li.length c12, li), (.slice A13 lu.length c13, lu)] ++ ps.drop (i + 1), by go_num, ⟨by omega⟩, ⟨by rw [← hstep, hps.out, take_foldl (f := reStep) (x := [rg]) hlt hc.out]⟩, ⟨by simp; omega⟩, ⟨HPe.out.below B7.out⟩, ⟨by
                        have h1 := Kd.R_lower R7.out (show w.heap.size ≤ wr.heap.size from HBe.out.size)
                        have h2 : (ps.take i ++ [((.slice A12 li.length c12 : Value), li), (.slice A13 lu.length c13, lu)] ++ ps.drop (i + 1)).map (fun p => [p.1]) = [] ++ (ps.map fun p => [p.1]).take i ++ [[.slice A12 li.length c12], [.slice A13 lu.length c13]] ++ (ps.map fun p => [p.1]).drop (i + 1) := by simp [List.map_take, List.map_drop]
                        unfold RowsO
                        rw [h2]
                        exact h1⟩, ⟨below_then HBe.out HBe.out.size B7.out⟩⟩
                      case measure => simp [intOf]; omega
            · have hl3 : decide ((i : Int) < (ps.length : Int)) = false := decide_eq_false (by omega)
              obtain rfl : i = ps.length := by omega
              rw [List.take_length] at hno
              have hstep := reStep_no ch hno.out
              go_wp2_with fail
              go_roundw
              case rel => exact ⟨j + 1, ps, by go_num, ⟨by omega⟩, ⟨by rw [← hstep, hps.out, take_foldl (f := reStep) (x := [rg]) hlt hc.out]⟩, ⟨by omega⟩, ⟨HPc.out.below HW.out⟩, ⟨HOc.out.below HW.out⟩, ⟨below_then HBc.out HBc.out.size HW.out⟩⟩
              case measure => simp [intOf]; omega
        · have hl : decide ((j : Int) < (l1.length : Int)) = false := decide_eq_false (by omega)
          obtain rfl : j = l1.length := by omega
          rw [List.take_length] at hps
          go_wp2_with fail
          obtain ⟨wo, rfl⟩ : ∃ wo : World, wo = wr := ⟨_, rfl⟩
          have hpl5 := hpl.out
          go_loopw [17, 108] (fun v17 v108 we => ∃ (m : Nat) (qs : List (Value × List Int)), v108 = .int .i64 (m : Int) ∧ Aside0 (m ≤ ps.length) ∧ Aside0 (qs.Perm (ps.take m)) ∧ Aside0 (qs.map Prod.snd = ((ps.take m).map Prod.snd).foldl rePut []) ∧ Aside0 (RowsO we w.heap.size v17 qs) ∧ Aside0 (Below wo.heap.size wo we)) (fun _ v108 _ => ps.length - (intOf v108).toNat)
          case atStart => exact ⟨0, [], rfl, ⟨Nat.zero_le _⟩, ⟨List.Perm.refl _⟩, ⟨rfl⟩, ⟨Kd.R_nil _ _ _ _ _⟩, ⟨Below.refl _ _⟩⟩
          case round =>
            clear hl
            obtain ⟨m, qs, rfl, hm, hpm, hqs, HQ, HW⟩ := hrel
            replace hm := hm.out
            have hql : qs.length = m := by have := hpm.out.length_eq; rw [List.length_take] at this; omega
            by_cases hlt : m < ps.length
            · have hl5 : decide ((m : Int) < (ps.length : Int)) = true := decide_eq_true (by omega)
              obtain ⟨ad7, A0, c0, ea7, hcell, hv0, hl0, hC0⟩ := RowsO.get (HP.out.below HW.out) (Kd.C_below HC.out HW.out) m hlt rfl
              cases ea7
              have ht : ps.take (m + 1) = ps.take m ++ [ps[m]] := List.take_succ_eq_append_getElem hlt
              have hp60 : ps[m].2.length ≤ 60 := by
                have h1 : ps[m].2 ∈ ps.map Prod.snd := List.mem_map.2 ⟨ps[m], List.getElem_mem hlt, rfl⟩
                rw [hps.out] at h1
                have h2 := reSteps_len (m := rg.length) l1 (rs := [rg]) (fun r hr => by rw [List.mem_singleton.1 hr]; exact Nat.le_refl _) _ h1
                have h3 : rg.length = k := by rw [hrg.out]; simp
                have := hk2.out
                omega
              generalize hp : ps[m] = pm at hcell hv0 hl0 hC0 ht hp60
              obtain ⟨A17, c17, e17, hc17, HC17⟩ := HQ.out.slice
              subst e17
              replace hp := Aside0.mk hp
              replace ht := Aside0.mk ht
              replace hv0 := Aside0.mk hv0
              replace hC0 := Aside0.mk hC0
              replace hp60 := Aside0.mk hp60
              replace hc17 := Aside0.mk hc17
              replace HC17 := Aside0.mk HC17
              replace hl0 := Aside0.mk hl0
              have hql2 := hql
              replace hql := Aside0.mk hql
              have hqm : qs.length ≤ 41 := by omega
              clear hql2
              go_wp2_with fail
              obtain ⟨wp, rfl⟩ : ∃ wp : World, wp = wr := ⟨_, rfl⟩
              have HQP := Aside0.mk (RowsP.perm ((HP.out.below HW.out).sub (List.take_sublist m ps)) hpm.out.symm)
              go_loopw [20] (fun v20 we => ∃ t : Nat, v20 = .int .i64 (t : Int) ∧ Aside0 (t ≤ qs.length) ∧ Aside0 (∀ x ∈ qs.drop t, lexLt pm.2 x.2 = true) ∧ Aside0 (Below wp.heap.size wp we)) (fun v20 _ => (intOf v20).toNat)
              case atStart => exact ⟨qs.length, rfl, ⟨Nat.le_refl _⟩, ⟨fun x hx => by simp at hx⟩, ⟨Below.refl _ _⟩⟩
              case round =>
                clear hcell hl5
                obtain ⟨t, rfl, htq, hall, HX⟩ := hrel
                have ht2 := htq.out
                have HBx := Aside0.mk (below_then (below_then HB.out HB.out.size HW.out) (Nat.le_trans HB.out.size HW.out.size) HX.out)
                have HCq := Aside0.mk (Kd.C_below HC17.out HX.out)
                by_cases h0 : t = 0
                · have hlast : ∀ s (hs : s < qs.length), t = s + 1 → lexLt pm.2 qs[s].2 = false := fun s hs he => absurd he (by omega)
                  replace hlast := Aside0.mk hlast
                  have hgt : decide (0 < t) = false := decide_eq_false (by omega)
                  have ht0 : (t : Int) ≤ 0 := by omega
                  clear h0
                  obtain ⟨i0_, hi0_, hz0_⟩ := Option.map_eq_some_iff.1 info24
                  simp only [Prod.mk.injEq] at hz0_
                  obtain ⟨AD, hcut, hAD⟩ := cut_row' (P := Try.prog) 37 24 Try.underlying37 hi0_ hz0_.2.1 A17 qs.length c17 t (t : Int) rfl htq.out hc17.out
                  have htake := take_cut (P := Try.prog) 37 24 Try.underlying37 hi0_ hz0_.2.1 A17 qs.length c17 t (t : Int) rfl (Nat.le_trans htq.out hc17.out)
                  clear hz0_ hi0_
                  go_wp2_with (first | ((with_reducible refine gate_builtin (b := .append) (xs := #[.tmp 127, .tmp 130]) rfl ?_); at_builtin; refine Kd.R_append_rows (Kd.raw 1) (w0 := wr) wr.heap.size rfl (.tmp 127) (.tmp 130) 37 24 (.slice none 0 0) 24 rfl Try.underlying37 info24 rfl (by decide) (by omega) _ [] ((qs.map fun p => [p.1]).take t) _ _ _ (fun _ => True) (fun _ => False) rfl rfl (none_row wr wr.heap.size 24 (Nat.le_refl _)) (take_row _ (Kd.C_below HCq.out (below_alloc (Below.refl _ _) _)) htq.out) (fun _ _ h => h) (fun _ h => h.elim) (fun _ _ => trivial) (below_alloc (Below.refl _ _) _) ((below_alloc (Below.refl _ _) _)).size ?aL ?_; (case aL => simp; omega); intro v5 w5 ho_ hb_ hg_ hat_; have R5 := Aside0.mk ho_; have B5 := Aside0.mk hb_; clear ho_ hb_ hg_ hat_) | ((with_reducible refine gate_builtin (b := .append) (xs := #[.tmp 131, .tmp 133]) rfl ?_); at_builtin; refine Kd.R_append_rows (Kd.raw 1) (w0 := wr) wr.heap.size rfl (.tmp 131) (.tmp 133) 37 24 (.slice none 0 0) 24 rfl Try.underlying37 info24 rfl (by decide) (by omega) _ _ _ _ _ _ (fun _ => True) (fun _ => False) rfl rfl (Kd.R_alloc R5.out _) (one_row w5 (.slice A0 pm.2.length c0) 24 rfl) (fun _ _ h => h) (fun _ h => h.elim) (fun _ _ => trivial) (below_alloc2 B5.out _) ((below_alloc2 B5.out _)).size ?aL ?_; (case aL => simp; omega); intro v6 w6 ho_ hb_ hg_ hat_; have R6 := Aside0.mk ho_; have B6 := Aside0.mk hb_; clear ho_ hb_ hg_ hat_) | ((with_reducible refine gate_builtin (b := .append) (xs := #[.tmp 135, .tmp 138]) rfl ?_); at_builtin; refine Kd.R_append_rows (Kd.raw 1) (w0 := wr) wr.heap.size rfl (.tmp 135) (.tmp 138) 37 24 (.slice none 0 0) 24 rfl Try.underlying37 info24 rfl (by decide) (by omega) _ _ _ _ _ _ (fun _ => True) (fun _ => False) rfl rfl R6.out (hAD (Kd.raw 1) w6 (qs.map fun p => [p.1]) rfl (Kd.C_below HCq.out B6.out)) (fun _ _ h => h) (fun _ h => h.elim) (fun _ _ => trivial) B6.out (B6.out).size ?aL ?_; (case aL => simp; omega); intro v7 w7 ho_ hb_ hg_ hat_; have R7 := Aside0.mk ho_; have B7 := Aside0.mk hb_; clear ho_ hb_ hg_ hat_))
                  go_roundw
                  case rel => exact ⟨m + 1, qs.take t ++ [(.slice A0 pm.2.length c0, pm.2)] ++ qs.drop t, by go_num, ⟨by omega⟩, ⟨by
                    rw [ht.out]
                    have e1 : pm = (.slice A0 pm.2.length c0, pm.2) := by rw [← hv0.out]
                    have h1 : (qs.take t ++ [((.slice A0 pm.2.length c0 : Value), pm.2)] ++ qs.drop t).Perm (qs ++ [pm]) := by
                      rw [← e1, List.append_assoc]
                      refine (List.Perm.append_left (qs.take t) List.perm_append_comm).trans ?_
                      rw [← List.append_assoc, List.take_append_drop]
                    exact h1.trans (hpm.out.append_right [pm])⟩, ⟨by
                    rw [ht.out, show ((ps.take m ++ [pm]).map Prod.snd).foldl rePut [] = rePut (qs.map Prod.snd) pm.2 from by rw [List.map_append, List.foldl_append, ← hqs.out]; rfl]
                    exact (rePut_at htq.out hall.out hlast.out _).symm⟩, ⟨by
                    have h1 := Kd.R_lower R7.out (show w.heap.size ≤ wr.heap.size from HBx.out.size)
                    have h2 : (qs.take t ++ [((.slice A0 pm.2.length c0 : Value), pm.2)] ++ qs.drop t).map (fun p => [p.1]) = [] ++ (qs.map fun p => [p.1]).take t ++ [[.slice A0 pm.2.length c0]] ++ (qs.map fun p => [p.1]).drop t := by simp [List.map_take, List.map_drop]
                    unfold RowsO
                    rw [h2]
                    exact h1⟩, ⟨below_then (below_then HW.out HW.out.size HX.out) (Nat.le_trans HW.out.size HX.out.size) B7.out⟩⟩
                  case measure => have := hlt; simp [intOf]; omega
                · obtain ⟨t1, rfl⟩ : ∃ t1, t = t1 + 1 := ⟨t - 1, by omega⟩
                  obtain ⟨ad17, A1_, c1_, ea17, hcell, hv1, hl1, hC1⟩ := RowsO.get (HQP.out.below HX.out) HCq.out t1 (by omega) rfl
                  cases ea17
                  have hgt : decide ((0 : Int) < ((t1 + 1 : Nat) : Int)) = true := decide_eq_true (by omega)
                  have hdr : qs.drop t1 = qs[t1] :: qs.drop (t1 + 1) := List.drop_eq_getElem_cons (by omega)
                  have hqi : ∀ s (hs : s < qs.length), t1 + 1 = s + 1 → qs[s] = qs[t1] := fun s hs he => by
                    have e : s = t1 := by omega
                    subst e
                    rfl
                  generalize hq1 : qs[t1] = q1 at hcell hv1 hl1 hC1 hdr hqi
                  clear hq1
                  have hcallL : Calls Try.prog 103 #[.slice A0 pm.2.length c0, .slice A1_ q1.2.length c1_] wr fun e w'' => e = .returned (.bool (lexLt pm.2 q1.2)) ∧ Drawn0 wr w'' :=
                    spec_reLess.calls _ _ _ _ _ _ _ _ _ (Kd.C_below (Kd.C_below hC0.out (Below.refl _ _)) HX.out) hl0.out hC1 hl1 (reLess_ev pm.2 q1.2 (by have := hp60.out; omega))
                  cases hb : lexLt pm.2 q1.2 with
                  | true =>
                    rw [hb] at hcallL
                    replace hb := Aside0.mk hb
                    replace hdr := Aside0.mk hdr
                    clear hqi
                    go_wp2_with fail
                    (with_reducible refine hcallL.mono ?_)
                    rintro e w' ⟨rfl, ⟨nd, rfl⟩⟩
                    go_wp2_with fail
                    go_roundw
                    case rel => exact ⟨t1, by first | rfl | go_num, ⟨by omega⟩, ⟨fun x hx => by
                      rw [hdr.out] at hx
                      rcases List.mem_cons.1 hx with rfl | hx
                      · exact hb.out
                      · exact hall.out x hx⟩, ⟨pw_below_drewN HX.out _⟩⟩
                    case measure => simp [intOf]
                  | false =>
                    rw [hb] at hcallL
                    replace hb := Aside0.mk hb
                    have hlast : Aside0 (∀ s (hs : s < qs.length), t1 + 1 = s + 1 → lexLt pm.2 qs[s].2 = false) := ⟨fun s hs he => by rw [hqi s hs he]; exact hb.out⟩
                    clear hqi
                    replace hdr := Aside0.mk hdr
                    obtain ⟨i0_, hi0_, hz0_⟩ := Option.map_eq_some_iff.1 info24
                    simp only [Prod.mk.injEq] at hz0_
                    obtain ⟨AD, hcut, hAD⟩ := cut_row' (P := Try.prog) 37 24 Try.underlying37 hi0_ hz0_.2.1 (some ad17) qs.length c17 (t1 + 1) ((t1 : Int) + 1) (by omega) htq.out hc17.out
                    have htake := take_cut (P := Try.prog) 37 24 Try.underlying37 hi0_ hz0_.2.1 (some ad17) qs.length c17 (t1 + 1) ((t1 : Int) + 1) (by omega) (Nat.le_trans htq.out hc17.out)
                    clear hz0_ hi0_
                    go_wp2_with fail
                    (with_reducible refine hcallL.mono ?_)
                    rintro e w' ⟨rfl, ⟨nd, rfl⟩⟩
                    have HXq := Aside0.mk (pw_below_drewN HX.out nd)
                    have HCr := Aside0.mk (Kd.C_drewN HCq.out nd)
                    have HBq := Aside0.mk (pw_below_drewN HBx.out nd)
                    clear hcallL hcell
                    generalize wr.drewN nd = wq at HXq HCr HBq ⊢
                    go_wp2_with (first | ((with_reducible refine gate_builtin (b := .append) (xs := #[.tmp 127, .tmp 130]) rfl ?_); at_builtin; refine Kd.R_append_rows (Kd.raw 1) (w0 := wq) wq.heap.size rfl (.tmp 127) (.tmp 130) 37 24 (.slice none 0 0) 24 rfl Try.underlying37 info24 rfl (by decide) (by omega) _ [] ((qs.map fun p => [p.1]).take (t1 + 1)) _ _ _ (fun _ => True) (fun _ => False) rfl rfl (none_row wq wq.heap.size 24 (Nat.le_refl _)) (take_row _ (Kd.C_below HCr.out (below_alloc (Below.refl _ _) _)) htq.out) (fun _ _ h => h) (fun _ h => h.elim) (fun _ _ => trivial) (below_alloc (Below.refl _ _) _) ((below_alloc (Below.refl _ _) _)).size ?aL ?_; (case aL => simp; omega); intro v5 w5 ho_ hb_ hg_ hat_; have R5 := Aside0.mk ho_; have B5 := Aside0.mk hb_; clear ho_ hb_ hg_ hat_) | ((with_reducible refine gate_builtin (b := .append) (xs := #[.tmp 131, .tmp 133]) rfl ?_); at_builtin; refine Kd.R_append_rows (Kd.raw 1) (w0 := wq) wq.heap.size rfl (.tmp 131) (.tmp 133) 37 24 (.slice none 0 0) 24 rfl Try.underlying37 info24 rfl (by decide) (by omega) _ _ _ _ _ _ (fun _ => True) (fun _ => False) rfl rfl (Kd.R_alloc R5.out _) (one_row w5 (.slice A0 pm.2.length c0) 24 rfl) (fun _ _ h => h) (fun _ h => h.elim) (fun _ _ => trivial) (below_alloc2 B5.out _) ((below_alloc2 B5.out _)).size ?aL ?_; (case aL => simp; omega); intro v6 w6 ho_ hb_ hg_ hat_; have R6 := Aside0.mk ho_; have B6 := Aside0.mk hb_; clear ho_ hb_ hg_ hat_) | ((with_reducible refine gate_builtin (b := .append) (xs := #[.tmp 135, .tmp 138]) rfl ?_); at_builtin; refine Kd.R_append_rows (Kd.raw 1) (w0 := wq) wq.heap.size rfl (.tmp 135) (.tmp 138) 37 24 (.slice none 0 0) 24 rfl Try.underlying37 info24 rfl (by decide) (by omega) _ _ _ _ _ _ (fun _ => True) (fun _ => False) rfl rfl R6.out (hAD (Kd.raw 1) w6 (qs.map fun p => [p.1]) rfl (Kd.C_below HCr.out B6.out)) (fun _ _ h => h) (fun _ h => h.elim) (fun _ _ => trivial) B6.out (B6.out).size ?aL ?_; (case aL => simp; omega); intro v7 w7 ho_ hb_ hg_ hat_; have R7 := Aside0.mk ho_; have B7 := Aside0.mk hb_; clear ho_ hb_ hg_ hat_))
                    go_roundw
                    case rel => exact ⟨m + 1, qs.take (t1 + 1) ++ [(.slice A0 pm.2.length c0, pm.2)] ++ qs.drop (t1 + 1), by go_num, ⟨by omega⟩, ⟨by
                      rw [ht.out]
                      have e1 : pm = (.slice A0 pm.2.length c0, pm.2) := by rw [← hv0.out]
                      have h1 : (qs.take (t1 + 1) ++ [((.slice A0 pm.2.length c0 : Value), pm.2)] ++ qs.drop (t1 + 1)).Perm (qs ++ [pm]) := by
                        rw [← e1, List.append_assoc]
                        refine (List.Perm.append_left (qs.take (t1 + 1)) List.perm_append_comm).trans ?_
                        rw [← List.append_assoc, List.take_append_drop]
                      exact h1.trans (hpm.out.append_right [pm])⟩, ⟨by
                      rw [ht.out, show ((ps.take m ++ [pm]).map Prod.snd).foldl rePut [] = rePut (qs.map Prod.snd) pm.2 from by rw [List.map_append, List.foldl_append, ← hqs.out]; rfl]
                      exact (rePut_at htq.out hall.out hlast.out _).symm⟩, ⟨by
                      have h1 := Kd.R_lower R7.out (show w.heap.size ≤ wq.heap.size from HBq.out.size)
                      have h2 : (qs.take (t1 + 1) ++ [((.slice A0 pm.2.length c0 : Value), pm.2)] ++ qs.drop (t1 + 1)).map (fun p => [p.1]) = [] ++ (qs.map fun p => [p.1]).take (t1 + 1) ++ [[.slice A0 pm.2.length c0]] ++ (qs.map fun p => [p.1]).drop (t1 + 1) := by simp [List.map_take, List.map_drop]
                      unfold RowsO
                      rw [h2]
                      exact h1⟩, ⟨below_then (below_then HW.out HW.out.size HXq.out) (Nat.le_trans HW.out.size HXq.out.size) B7.out⟩⟩
                    case measure => have := hlt; simp [intOf]; omega
            · have hl5 : decide ((m : Int) < (ps.length : Int)) = false := decide_eq_false (by omega)
              obtain rfl : m = ps.length := by omega
              rw [List.take_length] at hqs
              go_wp2_with fail
              go_ret
              refine ⟨_, rfl, ?_, below_then HB.out HB.out.size HW.out⟩
              have h1 := RowsO.S (RowsP.perm ((HP.out.below HW.out).sub (List.take_sublist ps.length ps)) hpm.out.symm) HQ.out
              have h2 : qs.map Prod.snd = r := by
                rw [hqs.out, hps.out, ← H.out, hrg.out, hk2.out]; rfl
              rw [h2] at h1
              exact h1
end Go.Proofs.Yteeghncofacmhaa.Q
end
