/- The proof of FnExactEndRegions, part 4 of 6; no condition: the statement as it is given. Merged by pack.py out of this session's texts. -/
import Derived.Shelf.SlGeneric
import Derived.Shelf.SlSortCmp.WholeK
import Derived.Shelf.SlicesQ.IndexFunc
import Derived.Shelf.SlicesE.IndexFunc
import Derived.Shelf.SlicesE.Clone
import Derived.Shelf.SlicesE.Compact
import Derived.Ground.SlsfProg
import Derived.Ground.SlgfProg
import Derived.Ground.SlgnProg
import Derived.Ground.NamesProg
import Derived.Test.YteeghncofacmhaaProg
import Derived.Test.YteeghncofacmhaaMe0
import Derived.Test.YteeghncofacmhaaMe2
section
namespace Go.Proofs.Yteeghncofacmhaa.Q
open Go.RowKit Go.Proofs.YteeghncofacmhaaW.PrintWords Go.Proofs.YteeghncofacmhaaW.PrintLast Go.Proofs.YteeghncofacmhaaW.PrintMore
attribute [local go_sem] max2_int min2_int max_two min_two max_three min_three max_four min_four   -- for this text's walks alone
set_option linter.unusedVariables false
set_option linter.unusedSimpArgs false
attribute [local go_sem high] eqA64
/-! ### impl_regionInside: function 104 -/
mutual
def impl_regionInside.j0 : Nat → List (S64) → Bool → Int → Int → List Int → List (S64) → List Int → Option (List Int × (List (S64)) × List Int)
  | 0, _, _, _, _, _, _, _ => none
  | k + 1, x0, x2, x102000, x102001, x107000, x107001, x107002 => impl_regionInside.l0 k x0 x2 x102000 x102000 x102001 x107000 x107001 x107002
def impl_regionInside.l0 : Nat → List (S64) → Bool → Int → Int → Int → List Int → List (S64) → List Int → Option (List Int × (List (S64)) × List Int)
  | 0, _, _, _, _, _, _, _, _ => none
  | k + 1, x0, x2, x8, x102000, x102001, x107000, x107001, x107002 => if x8 < x102001 then (impl_regionInside.l1 k x0 x2 x8 x8 x0 (x0.length : Int) 0 x102000 x102001 x107000 x107001 x107002) else (some (x107000, x107001, x107002))
def impl_regionInside.l1 : Nat → List (S64) → Bool → Int → Int → List (S64) → Int → Int → Int → Int → List Int → List (S64) → List Int → Option (List Int × (List (S64)) × List Int)
  | 0, _, _, _, _, _, _, _, _, _, _, _, _ => none
  | k + 1, x0, x2, x8, x9, x37, x38, x39, x102000, x102001, x107000, x107001, x107002 => if x39 < x38 then (if 0 ≤ x39 then (if x39 < (x37.length : Int) then (if ((rd_T64 x37 x39).f0) = x8 then (if ((rd_T64 x37 x39).f1) ≤ x102001 then (if ((rd_T64 x37 x39).f1) > x9 then (if x2 = true then (if ((((rd_T64 x37 x39).f0) == x102000 && (((rd_T64 x37 x39).f1) == x102001)) = true) then (impl_regionInside.l1 k x0 x2 x8 x9 x37 x38 (wrap64 (x39 + 1)) x102000 x102001 x107000 x107001 x107002) else (impl_regionInside.l1 k x0 x2 x8 ((rd_T64 x37 x39).f1) x37 x38 (wrap64 (x39 + 1)) x102000 x102001 x107000 x107001 x107002)) else (impl_regionInside.l1 k x0 x2 x8 ((rd_T64 x37 x39).f1) x37 x38 (wrap64 (x39 + 1)) x102000 x102001 x107000 x107001 x107002)) else (impl_regionInside.l1 k x0 x2 x8 x9 x37 x38 (wrap64 (x39 + 1)) x102000 x102001 x107000 x107001 x107002)) else (impl_regionInside.l1 k x0 x2 x8 x9 x37 x38 (wrap64 (x39 + 1)) x102000 x102001 x107000 x107001 x107002)) else (impl_regionInside.l1 k x0 x2 x8 x9 x37 x38 (wrap64 (x39 + 1)) x102000 x102001 x107000 x107001 x107002)) else (none)) else (none)) else (if x9 > x8 then (if x107001.length < 8796093022208 then (if x107000.length < 17592186044416 then (impl_regionInside.l0 k x0 x2 x9 x102000 x102001 (x107000 ++ [x9]) (x107001 ++ [(⟨x8, x9⟩ : S64)]) x107002) else (none)) else (none)) else (if x107002.length < 17592186044416 then (if x107000.length < 17592186044416 then (impl_regionInside.l0 k x0 x2 (wrap64 (x8 + 1)) x102000 x102001 (x107000 ++ [wrap64 (x8 + 1)]) x107001 (x107002 ++ [x8])) else (none)) else (none)))
end
def impl_regionInside.f (k : Nat) (l0 : List (S64)) (a1_0 : Int) (a1_1 : Int) (a2 : Bool) : Option (List Int × (List (S64)) × List Int) := (some (([a1_0] : List Int) : List Int)).bind fun y103 => (if a2 = true then (if ([] : List (S64)).length < 8796093022208 then (impl_regionInside.j0 k l0 a2 a1_0 a1_1 y103 (([] : List (S64)) ++ [(⟨a1_0, a1_1⟩ : S64)]) ([] : List Int)) else (none)) else (if ([] : List Int).length < 17592186044416 then (impl_regionInside.j0 k l0 a2 a1_0 a1_1 y103 ([] : List (S64)) (([] : List Int) ++ [a1_1])) else (none)))
set_option maxHeartbeats 8000000 in
set_option maxRecDepth 100000 in
theorem impl_regionInside.calls (k : Nat) (A0 : Option Addr) (c0 : Nat) (l0 : List (S64)) (a1_0 : Int) (a1_1 : Int) (a2 : Bool) (r1 : List Int) (r2 : List (S64)) (r3 : List Int) (w : World) (hr0 : Kd.C k64 w A0 l0.length l0) (hc0 : l0.length ≤ c0) (h : impl_regionInside.f k l0 a1_0 a1_1 a2 = some (r1, r2, r3)) :
    Calls Try.prog 104 #[.slice A0 l0.length c0, .agg #[.int .i64 a1_0, .int .i64 a1_1], .bool a2] w fun e w' => ∃ v0_ v1_ v2_ : Value, e = .returned (.agg #[v0_, v1_, v2_]) ∧ Kd.R (Kd.int .i64) 3 w' w.heap.size (fun k_ => some k_ ≠ (v2_ : Value).ownBlock) v0_ r1 ∧ Kd.R k64 64 w' w.heap.size (fun _ => True) v1_ r2 ∧ Kd.R (Kd.int .i64) 3 w' w.heap.size (fun k_ => some k_ ≠ (v0_ : Value).ownBlock) v2_ r3 ∧ Below w.heap.size w w' := by
  have hu64 := Try.underlying64
  have hu71 := Try.underlying71
  have HR0 := Aside0.mk hr0
  have HC0 := Aside0.mk hc0
  clear hr0 hc0
  have HB := Aside0.mk (Below.refl w.heap.size w)
  have H : ((some (([a1_0] : List Int) : List Int)).bind fun y103 => (if a2 = true then (if ([] : List (S64)).length < 8796093022208 then (impl_regionInside.j0 k l0 a2 a1_0 a1_1 y103 (([] : List (S64)) ++ [(⟨a1_0, a1_1⟩ : S64)]) ([] : List Int)) else (none)) else (if ([] : List Int).length < 17592186044416 then (impl_regionInside.j0 k l0 a2 a1_0 a1_1 y103 ([] : List (S64)) (([] : List Int) ++ [a1_1])) else (none)))) = some (r1, r2, r3) := h
  clear h
  obtain ⟨y103, hy103⟩ : ∃ y_ : List Int, y_ = (([a1_0] : List Int)) := ⟨_, rfl⟩
  replace H : (if a2 = true then (if ([] : List (S64)).length < 8796093022208 then (impl_regionInside.j0 k l0 a2 a1_0 a1_1 y103 (([] : List (S64)) ++ [(⟨a1_0, a1_1⟩ : S64)]) ([] : List Int)) else (none)) else (if ([] : List Int).length < 17592186044416 then (impl_regionInside.j0 k l0 a2 a1_0 a1_1 y103 ([] : List (S64)) (([] : List Int) ++ [a1_1])) else (none))) = some (r1, r2, r3) := by first | (rw [hy103]; with_reducible exact H) | (have H2_ := (Option.bind_some _ _).symm.trans H; rw [hy103]; with_reducible exact H2_) | (have H2_ := (Option.bind_some _ _).symm.trans H; with_reducible exact H2_) | with_reducible exact H | (rw [hy103]; exact H) | exact H
  have Ny103 := Aside0.mk hy103
  clear hy103
  have HC4 := Aside0.mk H
  clear H
  go_enter Try.func104, Try.ntmps104
  go_upto_if 16 with (first | ((with_reducible refine gate_dst (N := 4) rfl ?_); refine box_event ?hg (N := 4) ?hd (cs := #[.int .i64 a1_0, .int .i64 a1_1]) (t := 64) ?hr ?_; (case hd => rfl); (case hg => rfl); (case hr => first | (go_simp; done) | (go_simp; rfl)); intro gb101 hg w5 hbox hb; have n0_ := Aside0.mk (below_step (by repeat (first | (with_reducible first | exact HB.out | apply below_alloc | apply pw_below_drewN | apply below_drew1) | exact HB.out)) hb); have n1_ := Aside0.mk (hbox); have n2_ := Aside0.mk ((by rw [hg]; exact (below_size (by repeat (first | (with_reducible first | exact HB.out | apply below_alloc | apply pw_below_drewN | apply below_drew1) | exact HB.out))) : w.heap.size ≤ gb101)); have n3_ := Aside0.mk ((by rw [hg]; exact (below_size (by repeat (first | (with_reducible first | exact HB.out | apply below_alloc | apply pw_below_drewN | apply below_drew1) | exact HB.out))) : w.heap.size ≤ gb101)); clear HB; have HB := n0_; have BK101 := n1_; have GW101 := n2_; have GE101 := n3_; clear n0_ n1_ n2_ n3_; clear hb hbox hg) | ((with_reducible refine gate_dst (N := 6) rfl ?_); refine box_event ?hg (N := 6) ?hd (cs := #[.slice none 0 0, .slice none 0 0, .slice none 0 0]) (t := 71) ?hr ?_; (case hd => rfl); (case hg => rfl); (case hr => first | (go_simp; done) | (go_simp; rfl)); intro gb102 hg w6 hbox hb; have n0_ := Aside0.mk (blk_below (g := gb101) (o := .cells #[.int .i64 a1_0, .int .i64 a1_1] 64 (0, 0)) (by (with_reducible repeat (first | refine blk_drewN ?_ _ | refine blk_drew ?_ | refine blk_alloc ?_ _)); exact BK101.out) hb); have n1_ := Aside0.mk (below_step (by repeat (first | (with_reducible first | exact HB.out | apply below_alloc | apply pw_below_drewN | apply below_drew1 | refine below_set ?_ GE101.out) | exact HB.out)) hb); have n2_ := Aside0.mk (hbox); have n3_ := Aside0.mk ((by rw [hg]; exact (below_size (by repeat (first | (with_reducible first | exact HB.out | apply below_alloc | apply pw_below_drewN | apply below_drew1 | refine below_set ?_ GE101.out) | exact HB.out))) : w.heap.size ≤ gb102)); have n4_ := Aside0.mk ((by rw [hg]; exact (below_size (by repeat (first | (with_reducible first | exact HB.out | apply below_alloc | apply pw_below_drewN | apply below_drew1 | refine below_set ?_ GE101.out) | exact HB.out))) : w.heap.size ≤ gb102)); have n5_ := Aside0.mk ((by rw [hg]; exact Nat.ne_of_lt (blk_lt (g := gb101) (o := .cells #[.int .i64 a1_0, .int .i64 a1_1] 64 (0, 0)) (by (with_reducible repeat (first | refine blk_drewN ?_ _ | refine blk_drew ?_ | refine blk_alloc ?_ _)); exact BK101.out)) : gb101 ≠ gb102)); have n6_ := Aside0.mk ((by rw [hg]; exact Nat.ne_of_gt (blk_lt (g := gb101) (o := .cells #[.int .i64 a1_0, .int .i64 a1_1] 64 (0, 0)) (by (with_reducible repeat (first | refine blk_drewN ?_ _ | refine blk_drew ?_ | refine blk_alloc ?_ _)); exact BK101.out)) : gb102 ≠ gb101)); clear BK101; clear HB; have BK101 := n0_; have HB := n1_; have BK102 := n2_; have GW102 := n3_; have GE102 := n4_; have NB101_102 := n5_; have NB102_101 := n6_; clear n0_ n1_ n2_ n3_ n4_ n5_ n6_; clear hb hbox hg; have hnb7 := NB101_102.out; have hnc7 := NB102_101.out; have hcz8_0 : w6.cell? ⟨gb101, 0, none⟩ = some (.int .i64 a1_0) := (blk_cell BK101.out 0).trans rfl; have hcz8_1 : w6.cell? ⟨gb101, 1, none⟩ = some (.int .i64 a1_1) := (blk_cell BK101.out 1).trans rfl; have hfz8_0 := blk_frozen BK101.out 0; have hfz8_1 := blk_frozen BK101.out 1) | ((with_reducible refine gate_dst (N := 14) rfl ?_); refine Kd.R_lit (Kd.int .i64) _ 3 ?hg (N := 14) ?hd (xs := ([a1_0] : List Int)) (inner := [.int .i64 a1_0]) (ok := fun _ => True) (okp := fun _ => True) ?hr ?hp (fun _ hk => hk) trivial (Below.refl _ _) (Nat.le_refl _) (by simp) ?_; (case hd => rfl); (case hg => rfl); (case hr => first | (go_simp; done) | (go_simp; rfl)); (case hp => exact (Reps.one (show Kd.M (Kd.int .i64) _ _ _ a1_0 [.int .i64 a1_0] from rfl) (Reps.none _ _))); intro v104 w9 ho10 hb hg_ hnew_; clear hg_ hnew_; (first | rw [← Ny103.out] at ho10 | (simp only [Int.reduceToNat] at ho10; rw [← Ny103.out] at ho10)); have n0_ := Aside0.mk (Kd.R_lower ho10 (below_size (by repeat (first | (with_reducible first | exact HB.out | apply below_alloc | apply pw_below_drewN | apply below_drew1 | refine below_set ?_ GE101.out | refine below_set ?_ GE102.out) | exact HB.out)))); have n1_ := Aside0.mk (blk_below (g := gb101) (o := .cells #[.int .i64 a1_0, .int .i64 a1_1] 64 (0, 0)) (by (with_reducible repeat (first | refine blk_drewN ?_ _ | refine blk_drew ?_ | refine blk_alloc ?_ _)); exact BK101.out) hb); have n2_ := Aside0.mk (blk_below (g := gb102) (o := .cells #[.slice none 0 0, .slice none 0 0, .slice none 0 0] 71 (0, 0)) (by (with_reducible repeat (first | refine blk_drewN ?_ _ | refine blk_drew ?_ | refine blk_alloc ?_ _)); exact BK102.out) hb); have n3_ := Aside0.mk (below_step (by repeat (first | (with_reducible first | exact HB.out | apply below_alloc | apply pw_below_drewN | apply below_drew1 | refine below_set ?_ GE101.out | refine below_set ?_ GE102.out) | exact HB.out)) hb); clear BK101; clear BK102; clear HB; have HO105 := n0_; have BK101 := n1_; have BK102 := n2_; have HB := n3_; clear n0_ n1_ n2_ n3_; clear hb ho10; obtain ⟨Ao11, co11, eo11⟩ := Kd.R_slice HO105.out; subst eo11) | ((with_reducible refine gate_dst (N := 7) rfl ?_); refine box_event ?hg (N := 7) ?hd (cs := #[.slice none 0 0, .slice none 0 0, .slice none 0 0]) (t := 71) ?hr ?_; (case hd => rfl); (case hg => rfl); (case hr => first | (go_simp; done) | (go_simp; rfl)); intro gb106 hg w12 hbox hb; have n0_ := Aside0.mk (Kd.R_below (by (with_reducible repeat (first | apply Kd.R_alloc | apply Kd.R_drewN | apply Kd.R_drew)); exact HO105.out) hb); have n1_ := Aside0.mk (blk_below (g := gb101) (o := .cells #[.int .i64 a1_0, .int .i64 a1_1] 64 (0, 0)) (by (with_reducible repeat (first | refine blk_drewN ?_ _ | refine blk_drew ?_ | refine blk_alloc ?_ _)); exact BK101.out) hb); have n2_ := Aside0.mk (blk_below (g := gb102) (o := .cells #[.slice none 0 0, .slice none 0 0, .slice none 0 0] 71 (0, 0)) (by (with_reducible repeat (first | refine blk_drewN ?_ _ | refine blk_drew ?_ | refine blk_alloc ?_ _)); exact BK102.out) hb); have n3_ := Aside0.mk (below_step (by repeat (first | (with_reducible first | exact HB.out | apply below_alloc | apply pw_below_drewN | apply below_drew1 | refine below_set ?_ GE101.out | refine below_set ?_ GE102.out) | exact HB.out)) hb); have n4_ := Aside0.mk (hbox); have n5_ := Aside0.mk ((by rw [hg]; exact (below_size (by repeat (first | (with_reducible first | exact HB.out | apply below_alloc | apply pw_below_drewN | apply below_drew1 | refine below_set ?_ GE101.out | refine below_set ?_ GE102.out) | exact HB.out))) : w.heap.size ≤ gb106)); have n6_ := Aside0.mk ((by rw [hg]; exact (below_size (by repeat (first | (with_reducible first | exact HB.out | apply below_alloc | apply pw_below_drewN | apply below_drew1 | refine below_set ?_ GE101.out | refine below_set ?_ GE102.out) | exact HB.out))) : w.heap.size ≤ gb106)); have n7_ := Aside0.mk ((by rw [hg]; exact Nat.ne_of_lt (blk_lt (g := gb101) (o := .cells #[.int .i64 a1_0, .int .i64 a1_1] 64 (0, 0)) (by (with_reducible repeat (first | refine blk_drewN ?_ _ | refine blk_drew ?_ | refine blk_alloc ?_ _)); exact BK101.out)) : gb101 ≠ gb106)); have n8_ := Aside0.mk ((by rw [hg]; exact Nat.ne_of_gt (blk_lt (g := gb101) (o := .cells #[.int .i64 a1_0, .int .i64 a1_1] 64 (0, 0)) (by (with_reducible repeat (first | refine blk_drewN ?_ _ | refine blk_drew ?_ | refine blk_alloc ?_ _)); exact BK101.out)) : gb106 ≠ gb101)); have n9_ := Aside0.mk ((by rw [hg]; exact Nat.ne_of_lt (blk_lt (g := gb102) (o := .cells #[.slice none 0 0, .slice none 0 0, .slice none 0 0] 71 (0, 0)) (by (with_reducible repeat (first | refine blk_drewN ?_ _ | refine blk_drew ?_ | refine blk_alloc ?_ _)); exact BK102.out)) : gb102 ≠ gb106)); have n10_ := Aside0.mk ((by rw [hg]; exact Nat.ne_of_gt (blk_lt (g := gb102) (o := .cells #[.slice none 0 0, .slice none 0 0, .slice none 0 0] 71 (0, 0)) (by (with_reducible repeat (first | refine blk_drewN ?_ _ | refine blk_drew ?_ | refine blk_alloc ?_ _)); exact BK102.out)) : gb106 ≠ gb102)); clear HO105; clear BK101; clear BK102; clear HB; have HO105 := n0_; have BK101 := n1_; have BK102 := n2_; have HB := n3_; have BK106 := n4_; have GW106 := n5_; have GE106 := n6_; have NB101_106 := n7_; have NB106_101 := n8_; have NB102_106 := n9_; have NB106_102 := n10_; clear n0_ n1_ n2_ n3_ n4_ n5_ n6_ n7_ n8_ n9_ n10_; clear hb hbox hg; have hnb13 := NB106_101.out; have hnc13 := NB101_106.out; have hnb14 := NB106_102.out; have hnc14 := NB102_106.out; have hcz15_0 : w12.cell? ⟨gb106, 0, none⟩ = some (.slice none 0 0) := (blk_cell BK106.out 0).trans rfl; have hcz15_1 : w12.cell? ⟨gb106, 1, none⟩ = some (.slice none 0 0) := (blk_cell BK106.out 1).trans rfl; have hcz15_2 : w12.cell? ⟨gb106, 2, none⟩ = some (.slice none 0 0) := (blk_cell BK106.out 2).trans rfl; have hfz15_0 := blk_frozen BK106.out 0; have hfz15_1 := blk_frozen BK106.out 1; have hfz15_2 := blk_frozen BK106.out 2))
  (try simp only [Act.put, List.setIfInBounds_toArray, List.set_cons_zero, List.set_cons_succ])
  go_cut [] (fun wc => ∃ (kq : Nat) (x107001_3 : List (S64)) (x107002_3 : List Int) (u107001 : Value) (u107002 : Value), Aside0 (impl_regionInside.j0 kq l0 a2 a1_0 a1_1 y103 x107001_3 x107002_3 = some (r1, r2, r3)) ∧ Aside0 (kq ≤ k) ∧ Aside0 (Kd.R (Kd.int .i64) 3 wc w.heap.size (fun k_ => some k_ ≠ (u107002 : Value).ownBlock) (.slice Ao11 y103.length co11) y103) ∧ Aside0 (Kd.R k64 64 wc w.heap.size (fun k_ => k_ ≠ gb101) u107001 x107001_3) ∧ Aside0 (Kd.R (Kd.int .i64) 3 wc w.heap.size (fun k_ => some k_ ≠ ((.slice Ao11 y103.length co11) : Value).ownBlock) u107002 x107002_3) ∧ Aside0 (wc.heap[gb101]? = some (.cells #[.int .i64 a1_0, .int .i64 a1_1] 64 (0, 0))) ∧ Aside0 (wc.heap[gb102]? = some (.cells #[(.slice none 0 0), (.slice none 0 0), (.slice none 0 0)] 71 (0, 0))) ∧ Aside0 (wc.heap[gb106]? = some (.cells #[(.slice Ao11 y103.length co11), u107001, u107002] 71 (0, 0))) ∧ Aside0 (Below w.heap.size w wc))
  case first =>
    have H := HC4.out
    clear HC4
    by_cases c16 : a2 = true
    · subst c16
      have H1 : (if ([] : List (S64)).length < 8796093022208 then (impl_regionInside.j0 k l0 true a1_0 a1_1 y103 (([] : List (S64)) ++ [(⟨a1_0, a1_1⟩ : S64)]) ([] : List Int)) else (none)) = some (r1, r2, r3) := by rw [if_pos rfl] at H; exact H
      clear H
      have H := H1
      clear H1
      by_cases c17 : ([] : List (S64)).length < 8796093022208
      · rw [if_pos c17] at H
        have LMc17 := Aside0.mk c17
        clear c17
        obtain ⟨y107, hy107⟩ : ∃ y_ : List (S64), y_ = (([] : List (S64)) ++ [(⟨a1_0, a1_1⟩ : S64)]) := ⟨_, rfl⟩
        replace H : (impl_regionInside.j0 k l0 true a1_0 a1_1 y103 y107 ([] : List Int)) = some (r1, r2, r3) := by first | (rw [hy107]; with_reducible exact H) | (have H2_ := (Option.bind_some _ _).symm.trans H; rw [hy107]; with_reducible exact H2_) | (have H2_ := (Option.bind_some _ _).symm.trans H; with_reducible exact H2_) | with_reducible exact H | (rw [hy107]; exact H) | exact H
        have Ny107 := Aside0.mk hy107
        clear hy107
        have H' := Aside0.mk H
        clear H
        have hnb18 := NB106_101.out
        have hnc18 := NB101_106.out
        have hnb19 := NB106_102.out
        have hnc19 := NB102_106.out
        have hcz20_0 : w12.cell? ⟨gb106, 0, none⟩ = some (.slice none 0 0) := (blk_cell BK106.out 0).trans rfl
        have hcz20_1 : w12.cell? ⟨gb106, 1, none⟩ = some (.slice none 0 0) := (blk_cell BK106.out 1).trans rfl
        have hcz20_2 : w12.cell? ⟨gb106, 2, none⟩ = some (.slice none 0 0) := (blk_cell BK106.out 2).trans rfl
        have hfz20_0 := blk_frozen BK106.out 0
        have hfz20_1 := blk_frozen BK106.out 1
        have hfz20_2 := blk_frozen BK106.out 2
        have hnb21 := NB101_102.out
        have hnc21 := NB102_101.out
        have hcz22_0 : w12.cell? ⟨gb101, 0, none⟩ = some (.int .i64 a1_0) := (blk_cell BK101.out 0).trans rfl
        have hcz22_1 : w12.cell? ⟨gb101, 1, none⟩ = some (.int .i64 a1_1) := (blk_cell BK101.out 1).trans rfl
        have hfz22_0 := blk_frozen BK101.out 0
        have hfz22_1 := blk_frozen BK101.out 1
        go_wp2_with (first | ((with_reducible refine gate_builtin (b := .append) (xs := #[.tmp 18, .tmp 20]) rfl ?_); at_builtin; refine Kd.R_append k64 (w0 := w) w.heap.size rfl (.tmp 18) (.tmp 20) 27 64 (.agg #[(.int .i64 0), (.int .i64 0)]) 16 rfl Try.underlying27 info64 rfl (by decide) (by omega) (.slice none 0 0) ([] : List (S64)) (⟨a1_0, a1_1⟩ : S64) [.int .i64 a1_0, .int .i64 a1_1] (fun k_ => k_ ≠ gb101) (fun _ => False) rfl (by first | (go_simp; done) | (go_simp; rfl)) ?aP (fun _ hk => hk.elim) ?aF ?aO ?aB ?aS ?aL ?_; (case aP => exact k64_mkM _ _ _ (⟨a1_0, a1_1⟩ : S64)); (case aB => exact (by repeat (first | (with_reducible first | exact HB.out | apply below_alloc | apply pw_below_drewN | apply below_drew1 | refine below_set ?_ GE101.out | refine below_set ?_ GE102.out | refine below_set ?_ GE106.out) | exact HB.out))); (case aF => exact (fun k_ hk => Kd.freshB (g := gb101) (o := .cells #[.int .i64 a1_0, .int .i64 a1_1] 64 (0, 0)) (by (with_reducible repeat (first | refine blk_drewN ?_ _ | refine blk_drew ?_ | refine blk_alloc ?_ _)); refine blk_far ?_ NB101_106.out _; (with_reducible repeat (first | refine blk_drewN ?_ _ | refine blk_drew ?_ | refine blk_alloc ?_ _)); refine blk_far ?_ NB101_106.out _; (with_reducible repeat (first | refine blk_drewN ?_ _ | refine blk_drew ?_ | refine blk_alloc ?_ _)); refine blk_far ?_ NB101_106.out _; (with_reducible repeat (first | refine blk_drewN ?_ _ | refine blk_drew ?_ | refine blk_alloc ?_ _)); exact BK101.out) k_ hk)); (case aO => exact ((Kd.R_nil _ _ _ _ (fun k_ => k_ ≠ gb101)))); (case aS => exact (below_size (by repeat (first | (with_reducible first | exact HB.out | apply below_alloc | apply pw_below_drewN | apply below_drew1 | refine below_set ?_ GE101.out | refine below_set ?_ GE102.out | refine below_set ?_ GE106.out) | exact HB.out)))); (case aL => have := LMc17.out; omega); intro v108 w23 ho hb hg hat; rw [← Ny107.out] at ho; have n0_ := Aside0.mk (blk_grown (g := gb101) (o := .cells #[.int .i64 a1_0, .int .i64 a1_1] 64 (0, 0)) (by (with_reducible repeat (first | refine blk_drewN ?_ _ | refine blk_drew ?_ | refine blk_alloc ?_ _)); refine blk_far ?_ NB101_106.out _; (with_reducible repeat (first | refine blk_drewN ?_ _ | refine blk_drew ?_ | refine blk_alloc ?_ _)); refine blk_far ?_ NB101_106.out _; (with_reducible repeat (first | refine blk_drewN ?_ _ | refine blk_drew ?_ | refine blk_alloc ?_ _)); refine blk_far ?_ NB101_106.out _; (with_reducible repeat (first | refine blk_drewN ?_ _ | refine blk_drew ?_ | refine blk_alloc ?_ _)); exact BK101.out) hg (by simp [Value.ownBlock])); have n1_ := Aside0.mk (blk_grown (g := gb102) (o := .cells #[.slice none 0 0, .slice none 0 0, .slice none 0 0] 71 (0, 0)) (by (with_reducible repeat (first | refine blk_drewN ?_ _ | refine blk_drew ?_ | refine blk_alloc ?_ _)); refine blk_far ?_ NB102_106.out _; (with_reducible repeat (first | refine blk_drewN ?_ _ | refine blk_drew ?_ | refine blk_alloc ?_ _)); refine blk_far ?_ NB102_106.out _; (with_reducible repeat (first | refine blk_drewN ?_ _ | refine blk_drew ?_ | refine blk_alloc ?_ _)); refine blk_far ?_ NB102_106.out _; (with_reducible repeat (first | refine blk_drewN ?_ _ | refine blk_drew ?_ | refine blk_alloc ?_ _)); exact BK102.out) hg (by simp [Value.ownBlock])); have n2_ := Aside0.mk (Kd.R_grown (by (with_reducible repeat (first | apply Kd.R_alloc | apply Kd.R_drewN | apply Kd.R_drew)); exact (Kd.R_mono (Kd.R_far (p := ⟨gb106, 2, none⟩) (Kd.R_far (p := ⟨gb106, 1, none⟩) (Kd.R_far (p := ⟨gb106, 0, none⟩) (Kd.R_types HO105.out BK106.out (by decide)) (fun _ hk => hk.2) (.slice Ao11 y103.length co11)) (fun _ hk => hk.2) (.slice none 0 0)) (fun _ hk => hk.2) (.slice none 0 0)) (fun _ h_ => h_.1))) hg (fun _ _ => by simp [Value.ownBlock])); have n3_ := Aside0.mk (blk_grown (g := gb106) (o := .cells #[.slice Ao11 y103.length co11, .slice none 0 0, .slice none 0 0] 71 (0, 0)) (by (with_reducible repeat (first | refine blk_drewN ?_ _ | refine blk_drew ?_ | refine blk_alloc ?_ _)); refine blk_put (cs := #[.slice Ao11 y103.length co11, .slice none 0 0, .slice none 0 0]) ?_ 2 _ rfl; (with_reducible repeat (first | refine blk_drewN ?_ _ | refine blk_drew ?_ | refine blk_alloc ?_ _)); refine blk_put (cs := #[.slice Ao11 y103.length co11, .slice none 0 0, .slice none 0 0]) ?_ 1 _ rfl; (with_reducible repeat (first | refine blk_drewN ?_ _ | refine blk_drew ?_ | refine blk_alloc ?_ _)); refine blk_put (cs := #[.slice none 0 0, .slice none 0 0, .slice none 0 0]) ?_ 0 _ rfl; (with_reducible repeat (first | refine blk_drewN ?_ _ | refine blk_drew ?_ | refine blk_alloc ?_ _)); exact BK106.out) hg (by simp [Value.ownBlock])); have n4_ := Aside0.mk (hb); have n5_ := Aside0.mk (ho); clear BK101; clear BK102; clear HO105; clear BK106; clear HB; have BK101 := n0_; have BK102 := n1_; have HO105 := n2_; have BK106 := n3_; have HB := n4_; have HO109 := n5_; clear n0_ n1_ n2_ n3_ n4_ n5_; clear ho hb hg hat; obtain ⟨Ao24, co24, eo24⟩ := Kd.R_slice HO109.out; subst eo24; have hcz25_0 : w23.cell? ⟨gb106, 0, none⟩ = some (.slice Ao11 y103.length co11) := (blk_cell BK106.out 0).trans rfl; have hcz25_1 : w23.cell? ⟨gb106, 1, none⟩ = some (.slice none 0 0) := (blk_cell BK106.out 1).trans rfl; have hcz25_2 : w23.cell? ⟨gb106, 2, none⟩ = some (.slice none 0 0) := (blk_cell BK106.out 2).trans rfl; have hfz25_0 := blk_frozen BK106.out 0; have hfz25_1 := blk_frozen BK106.out 1; have hfz25_2 := blk_frozen BK106.out 2))
        go_meet
        case rel => exact ⟨_, (y107), (([] : List Int)), (.slice Ao24 y107.length co24), (.slice none 0 0), H', ⟨by first | omega | exact Nat.le_refl _⟩, ⟨by (with_reducible repeat (first | apply Kd.R_alloc | apply Kd.R_drewN | apply Kd.R_drew)); exact Kd.R_mono (Kd.R_far (p := ⟨gb106, 1, none⟩) (Kd.R_types HO105.out BK106.out (by decide)) (fun _ hk => hk.2) (.slice Ao24 y107.length co24)) (fun _ hk => (by simp [Value.ownBlock]))⟩, ⟨by (with_reducible repeat (first | apply Kd.R_alloc | apply Kd.R_drewN | apply Kd.R_drew)); exact Kd.R_mono (Kd.R_far (p := ⟨gb106, 1, none⟩) (Kd.R_types HO109.out BK106.out (by decide)) (fun _ hk => hk.2) (.slice Ao24 y107.length co24)) (fun _ hk => hk.1)⟩, ⟨by first | exact Kd.R_nil _ _ _ _ _ | exact Kd.N_nil _ _ _ _ _ | exact Kd.V_nil _ _ _ _ _ | exact Kd.Q_nil _ _ _ _ _ | exact Kd.S_nil _ _ _ _ _⟩, ⟨by (with_reducible repeat (first | refine blk_drewN ?_ _ | refine blk_drew ?_ | refine blk_alloc ?_ _)); refine blk_far ?_ NB101_106.out _; (with_reducible repeat (first | refine blk_drewN ?_ _ | refine blk_drew ?_ | refine blk_alloc ?_ _)); exact BK101.out⟩, ⟨by (with_reducible repeat (first | refine blk_drewN ?_ _ | refine blk_drew ?_ | refine blk_alloc ?_ _)); refine blk_far ?_ NB102_106.out _; (with_reducible repeat (first | refine blk_drewN ?_ _ | refine blk_drew ?_ | refine blk_alloc ?_ _)); exact BK102.out⟩, ⟨by (with_reducible repeat (first | refine blk_drewN ?_ _ | refine blk_drew ?_ | refine blk_alloc ?_ _)); refine blk_put (cs := #[.slice Ao11 y103.length co11, .slice none 0 0, .slice none 0 0]) ?_ 1 _ rfl; (with_reducible repeat (first | refine blk_drewN ?_ _ | refine blk_drew ?_ | refine blk_alloc ?_ _)); exact BK106.out⟩, ⟨by repeat (first | (with_reducible first | exact HB.out | apply below_alloc | apply pw_below_drewN | apply below_drew1 | refine below_set ?_ GE101.out | refine below_set ?_ GE102.out | refine below_set ?_ GE106.out) | exact HB.out)⟩⟩
      · rw [if_neg c17] at H
        exact absurd H (by simp)
    · replace c16 := Bool.eq_false_iff.mpr c16
      subst c16
      have H1 : (if ([] : List Int).length < 17592186044416 then (impl_regionInside.j0 k l0 false a1_0 a1_1 y103 ([] : List (S64)) (([] : List Int) ++ [a1_1])) else (none)) = some (r1, r2, r3) := by rw [if_neg (show ¬ (false = true) by decide)] at H; exact H
      clear H
      have H := H1
      clear H1
      by_cases c26 : ([] : List Int).length < 17592186044416
      · rw [if_pos c26] at H
        have LMc26 := Aside0.mk c26
        clear c26
        obtain ⟨y110, hy110⟩ : ∃ y_ : List Int, y_ = (([] : List Int) ++ [a1_1]) := ⟨_, rfl⟩
        replace H : (impl_regionInside.j0 k l0 false a1_0 a1_1 y103 ([] : List (S64)) y110) = some (r1, r2, r3) := by first | (rw [hy110]; with_reducible exact H) | (have H2_ := (Option.bind_some _ _).symm.trans H; rw [hy110]; with_reducible exact H2_) | (have H2_ := (Option.bind_some _ _).symm.trans H; with_reducible exact H2_) | with_reducible exact H | (rw [hy110]; exact H) | exact H
        have Ny110 := Aside0.mk hy110
        clear hy110
        have H' := Aside0.mk H
        clear H
        have hnb27 := NB106_101.out
        have hnc27 := NB101_106.out
        have hnb28 := NB106_102.out
        have hnc28 := NB102_106.out
        have hcz29_0 : w12.cell? ⟨gb106, 0, none⟩ = some (.slice none 0 0) := (blk_cell BK106.out 0).trans rfl
        have hcz29_1 : w12.cell? ⟨gb106, 1, none⟩ = some (.slice none 0 0) := (blk_cell BK106.out 1).trans rfl
        have hcz29_2 : w12.cell? ⟨gb106, 2, none⟩ = some (.slice none 0 0) := (blk_cell BK106.out 2).trans rfl
        have hfz29_0 := blk_frozen BK106.out 0
        have hfz29_1 := blk_frozen BK106.out 1
        have hfz29_2 := blk_frozen BK106.out 2
        have hnb30 := NB101_102.out
        have hnc30 := NB102_101.out
        have hcz31_0 : w12.cell? ⟨gb101, 0, none⟩ = some (.int .i64 a1_0) := (blk_cell BK101.out 0).trans rfl
        have hcz31_1 : w12.cell? ⟨gb101, 1, none⟩ = some (.int .i64 a1_1) := (blk_cell BK101.out 1).trans rfl
        have hfz31_0 := blk_frozen BK101.out 0
        have hfz31_1 := blk_frozen BK101.out 1
        go_wp2_with (first | ((with_reducible refine gate_builtin (b := .append) (xs := #[.tmp 24, .tmp 27]) rfl ?_); at_builtin; refine Kd.R_append (Kd.int .i64) (w0 := w) w.heap.size rfl (.tmp 24) (.tmp 27) 24 3 (.int .i64 0) 8 rfl Try.underlying24 info3 rfl (by decide) (by omega) (.slice none 0 0) ([] : List Int) a1_1 [.int .i64 a1_1] (fun k_ => some k_ ≠ (.slice Ao11 y103.length co11 : Value).ownBlock) (fun _ => False) rfl (by first | (go_simp; done) | (go_simp; rfl)) ?aP (fun _ hk => hk.elim) ?aF ?aO ?aB ?aS ?aL ?_; (case aP => exact rfl); (case aB => exact (by repeat (first | (with_reducible first | exact HB.out | apply below_alloc | apply pw_below_drewN | apply below_drew1 | refine below_set ?_ GE101.out | refine below_set ?_ GE102.out | refine below_set ?_ GE106.out) | exact HB.out))); (case aF => exact (fun k_ hk => Kd.fresh' (Kd.R_lt (by (with_reducible repeat (first | apply Kd.R_alloc | apply Kd.R_drewN | apply Kd.R_drew)); exact (Kd.R_mono (Kd.R_far (p := ⟨gb106, 2, none⟩) (Kd.R_far (p := ⟨gb106, 1, none⟩) (Kd.R_far (p := ⟨gb106, 0, none⟩) (Kd.R_types HO105.out BK106.out (by decide)) (fun _ hk => hk.2) (.slice Ao11 y103.length co11)) (fun _ hk => hk.2) (.slice none 0 0)) (fun _ hk => hk.2) (.slice none 0 0)) (fun _ h_ => h_.1)))) k_ hk)); (case aO => exact ((Kd.R_nil _ _ _ _ (fun k_ => some k_ ≠ (.slice Ao11 y103.length co11 : Value).ownBlock)))); (case aS => exact (below_size (by repeat (first | (with_reducible first | exact HB.out | apply below_alloc | apply pw_below_drewN | apply below_drew1 | refine below_set ?_ GE101.out | refine below_set ?_ GE102.out | refine below_set ?_ GE106.out) | exact HB.out)))); (case aL => have := LMc26.out; omega); intro v111 w32 ho hb hg hat; rw [← Ny110.out] at ho; have n0_ := Aside0.mk (blk_grown (g := gb101) (o := .cells #[.int .i64 a1_0, .int .i64 a1_1] 64 (0, 0)) (by (with_reducible repeat (first | refine blk_drewN ?_ _ | refine blk_drew ?_ | refine blk_alloc ?_ _)); refine blk_far ?_ NB101_106.out _; (with_reducible repeat (first | refine blk_drewN ?_ _ | refine blk_drew ?_ | refine blk_alloc ?_ _)); refine blk_far ?_ NB101_106.out _; (with_reducible repeat (first | refine blk_drewN ?_ _ | refine blk_drew ?_ | refine blk_alloc ?_ _)); refine blk_far ?_ NB101_106.out _; (with_reducible repeat (first | refine blk_drewN ?_ _ | refine blk_drew ?_ | refine blk_alloc ?_ _)); exact BK101.out) hg (by simp [Value.ownBlock])); have n1_ := Aside0.mk (blk_grown (g := gb102) (o := .cells #[.slice none 0 0, .slice none 0 0, .slice none 0 0] 71 (0, 0)) (by (with_reducible repeat (first | refine blk_drewN ?_ _ | refine blk_drew ?_ | refine blk_alloc ?_ _)); refine blk_far ?_ NB102_106.out _; (with_reducible repeat (first | refine blk_drewN ?_ _ | refine blk_drew ?_ | refine blk_alloc ?_ _)); refine blk_far ?_ NB102_106.out _; (with_reducible repeat (first | refine blk_drewN ?_ _ | refine blk_drew ?_ | refine blk_alloc ?_ _)); refine blk_far ?_ NB102_106.out _; (with_reducible repeat (first | refine blk_drewN ?_ _ | refine blk_drew ?_ | refine blk_alloc ?_ _)); exact BK102.out) hg (by simp [Value.ownBlock])); have n2_ := Aside0.mk (Kd.R_after (Kd.R_apart_nil (by (with_reducible repeat (first | apply Kd.R_alloc | apply Kd.R_drewN | apply Kd.R_drew)); exact (Kd.R_mono (Kd.R_far (p := ⟨gb106, 2, none⟩) (Kd.R_far (p := ⟨gb106, 1, none⟩) (Kd.R_far (p := ⟨gb106, 0, none⟩) (Kd.R_types HO105.out BK106.out (by decide)) (fun _ hk => hk.2) (.slice Ao11 y103.length co11)) (fun _ hk => hk.2) (.slice none 0 0)) (fun _ hk => hk.2) (.slice none 0 0)) (fun _ h_ => h_.1)))) hg hat); have n3_ := Aside0.mk (blk_grown (g := gb106) (o := .cells #[.slice Ao11 y103.length co11, .slice none 0 0, .slice none 0 0] 71 (0, 0)) (by (with_reducible repeat (first | refine blk_drewN ?_ _ | refine blk_drew ?_ | refine blk_alloc ?_ _)); refine blk_put (cs := #[.slice Ao11 y103.length co11, .slice none 0 0, .slice none 0 0]) ?_ 2 _ rfl; (with_reducible repeat (first | refine blk_drewN ?_ _ | refine blk_drew ?_ | refine blk_alloc ?_ _)); refine blk_put (cs := #[.slice Ao11 y103.length co11, .slice none 0 0, .slice none 0 0]) ?_ 1 _ rfl; (with_reducible repeat (first | refine blk_drewN ?_ _ | refine blk_drew ?_ | refine blk_alloc ?_ _)); refine blk_put (cs := #[.slice none 0 0, .slice none 0 0, .slice none 0 0]) ?_ 0 _ rfl; (with_reducible repeat (first | refine blk_drewN ?_ _ | refine blk_drew ?_ | refine blk_alloc ?_ _)); exact BK106.out) hg (by simp [Value.ownBlock])); have n4_ := Aside0.mk (hb); have n5_ := Aside0.mk (ho); clear BK101; clear BK102; clear HO105; clear BK106; clear HB; have BK101 := n0_; have BK102 := n1_; have HO105 := n2_; have BK106 := n3_; have HB := n4_; have HO112 := n5_; clear n0_ n1_ n2_ n3_ n4_ n5_; clear ho hb hg hat; obtain ⟨Ao33, co33, eo33⟩ := Kd.R_slice HO112.out; subst eo33; have hcz34_0 : w32.cell? ⟨gb106, 0, none⟩ = some (.slice Ao11 y103.length co11) := (blk_cell BK106.out 0).trans rfl; have hcz34_1 : w32.cell? ⟨gb106, 1, none⟩ = some (.slice none 0 0) := (blk_cell BK106.out 1).trans rfl; have hcz34_2 : w32.cell? ⟨gb106, 2, none⟩ = some (.slice none 0 0) := (blk_cell BK106.out 2).trans rfl; have hfz34_0 := blk_frozen BK106.out 0; have hfz34_1 := blk_frozen BK106.out 1; have hfz34_2 := blk_frozen BK106.out 2))
        go_meet
        case rel => exact ⟨_, (([] : List (S64))), (y110), (.slice none 0 0), (.slice Ao33 y110.length co33), H', ⟨by first | omega | exact Nat.le_refl _⟩, ⟨by (with_reducible repeat (first | apply Kd.R_alloc | apply Kd.R_drewN | apply Kd.R_drew)); exact Kd.R_mono (Kd.R_far (p := ⟨gb106, 2, none⟩) (Kd.R_types HO105.out BK106.out (by decide)) (fun _ hk => hk.2) (.slice Ao33 y110.length co33)) (fun _ hk => hk.1.2)⟩, ⟨by first | exact Kd.R_nil _ _ _ _ _ | exact Kd.N_nil _ _ _ _ _ | exact Kd.V_nil _ _ _ _ _ | exact Kd.Q_nil _ _ _ _ _ | exact Kd.S_nil _ _ _ _ _⟩, ⟨by (with_reducible repeat (first | apply Kd.R_alloc | apply Kd.R_drewN | apply Kd.R_drew)); exact Kd.R_mono (Kd.R_far (p := ⟨gb106, 2, none⟩) (Kd.R_types HO112.out BK106.out (by decide)) (fun _ hk => hk.2) (.slice Ao33 y110.length co33)) (fun _ hk => hk.1)⟩, ⟨by (with_reducible repeat (first | refine blk_drewN ?_ _ | refine blk_drew ?_ | refine blk_alloc ?_ _)); refine blk_far ?_ NB101_106.out _; (with_reducible repeat (first | refine blk_drewN ?_ _ | refine blk_drew ?_ | refine blk_alloc ?_ _)); exact BK101.out⟩, ⟨by (with_reducible repeat (first | refine blk_drewN ?_ _ | refine blk_drew ?_ | refine blk_alloc ?_ _)); refine blk_far ?_ NB102_106.out _; (with_reducible repeat (first | refine blk_drewN ?_ _ | refine blk_drew ?_ | refine blk_alloc ?_ _)); exact BK102.out⟩, ⟨by (with_reducible repeat (first | refine blk_drewN ?_ _ | refine blk_drew ?_ | refine blk_alloc ?_ _)); refine blk_put (cs := #[.slice Ao11 y103.length co11, .slice none 0 0, .slice none 0 0]) ?_ 2 _ rfl; (with_reducible repeat (first | refine blk_drewN ?_ _ | refine blk_drew ?_ | refine blk_alloc ?_ _)); exact BK106.out⟩, ⟨by repeat (first | (with_reducible first | exact HB.out | apply below_alloc | apply pw_below_drewN | apply below_drew1 | refine below_set ?_ GE101.out | refine below_set ?_ GE102.out | refine below_set ?_ GE106.out) | exact HB.out)⟩⟩
      · rw [if_neg c26] at H
        exact absurd H (by simp)
  case rest =>
    clear HC4
    try clear c1
    try clear c2
    try clear p2
    try clear c3
    try clear c7
    try clear c10
    try clear c13
    try clear c14
    try clear c16
    try clear c17
    try clear c18
    try clear c19
    try clear c21
    try clear c26
    try clear c27
    try clear c28
    try clear c30
    try clear hcz15_0
    try clear hcz15_1
    try clear hcz15_2
    try clear hcz20_0
    try clear hcz20_1
    try clear hcz20_2
    try clear hcz22_0
    try clear hcz22_1
    try clear hcz25_0
    try clear hcz25_1
    try clear hcz25_2
    try clear hcz29_0
    try clear hcz29_1
    try clear hcz29_2
    try clear hcz31_0
    try clear hcz31_1
    try clear hcz34_0
    try clear hcz34_1
    try clear hcz34_2
    try clear hcz8_0
    try clear hcz8_1
    try clear hfz15_0
    try clear hfz15_1
    try clear hfz15_2
    try clear hfz20_0
    try clear hfz20_1
    try clear hfz20_2
    try clear hfz22_0
    try clear hfz22_1
    try clear hfz25_0
    try clear hfz25_1
    try clear hfz25_2
    try clear hfz29_0
    try clear hfz29_1
    try clear hfz29_2
    try clear hfz31_0
    try clear hfz31_1
    try clear hfz34_0
    try clear hfz34_1
    try clear hfz34_2
    try clear hfz8_0
    try clear hfz8_1
    obtain ⟨kq, x107001_3, x107002_3, u107001, u107002, HA, HJ3, HO_107000, HO_107001, HO_107002, BK101, BK102, BK106, HB⟩ := hcut
    cases kq with
    | zero => exact absurd HA.out (by simp [impl_regionInside.j0])
    | succ kj3 =>
      have H := HA.out
      clear HA
      simp only [impl_regionInside.j0] at H
      have H' := Aside0.mk H
      clear H
      have hnb35 := NB101_102.out
      have hnc35 := NB102_101.out
      have hnb36 := NB101_106.out
      have hnc36 := NB106_101.out
      have hcz37_0 : wc.cell? ⟨gb101, 0, none⟩ = some (.int .i64 a1_0) := (blk_cell BK101.out 0).trans rfl
      have hcz37_1 : wc.cell? ⟨gb101, 1, none⟩ = some (.int .i64 a1_1) := (blk_cell BK101.out 1).trans rfl
      have hfz37_0 := blk_frozen BK101.out 0
      have hfz37_1 := blk_frozen BK101.out 1
      go_wp2
      go_loopg [8] kj3 (fun kq v8 w' => ∃ (x8_2 : Int) (x107000_2 : List Int) (x107001_2 : List (S64)) (x107002_2 : List Int) (u107000 : Value) (u107001 : Value) (u107002 : Value), v8 = .int .i64 x8_2 ∧ Aside0 (impl_regionInside.l0 kq l0 a2 x8_2 a1_0 a1_1 x107000_2 x107001_2 x107002_2 = some (r1, r2, r3)) ∧ Aside0 (kq ≤ kj3) ∧ Aside0 (Kd.R (Kd.int .i64) 3 w' w.heap.size (fun k_ => some k_ ≠ (u107002 : Value).ownBlock) u107000 x107000_2) ∧ Aside0 (Kd.R k64 64 w' w.heap.size (fun k_ => k_ ≠ gb101) u107001 x107001_2) ∧ Aside0 (Kd.R (Kd.int .i64) 3 w' w.heap.size (fun k_ => some k_ ≠ (u107000 : Value).ownBlock) u107002 x107002_2) ∧ Aside0 (w'.heap[gb101]? = some (.cells #[.int .i64 a1_0, .int .i64 a1_1] 64 (0, 0))) ∧ Aside0 (w'.heap[gb102]? = some (.cells #[(.slice none 0 0), (.slice none 0 0), (.slice none 0 0)] 71 (0, 0))) ∧ Aside0 (w'.heap[gb106]? = some (.cells #[u107000, u107001, u107002] 71 (0, 0))) ∧ Aside0 (Below w.heap.size w w'))
      case atStart => exact ⟨(a1_0), (y103), (x107001_3), (x107002_3), (.slice Ao11 y103.length co11), (u107001), (u107002), (by first | rfl | (simp; done) | (simp [*]; done)), H', ⟨Nat.le_refl _⟩, ⟨by (with_reducible repeat (first | apply Kd.R_alloc | apply Kd.R_drewN | apply Kd.R_drew)); exact HO_107000.out⟩, ⟨by (with_reducible repeat (first | apply Kd.R_alloc | apply Kd.R_drewN | apply Kd.R_drew)); exact HO_107001.out⟩, ⟨by (with_reducible repeat (first | apply Kd.R_alloc | apply Kd.R_drewN | apply Kd.R_drew)); exact HO_107002.out⟩, ⟨by (with_reducible repeat (first | refine blk_drewN ?_ _ | refine blk_drew ?_ | refine blk_alloc ?_ _)); exact BK101.out⟩, ⟨by (with_reducible repeat (first | refine blk_drewN ?_ _ | refine blk_drew ?_ | refine blk_alloc ?_ _)); exact BK102.out⟩, ⟨by (with_reducible repeat (first | refine blk_drewN ?_ _ | refine blk_drew ?_ | refine blk_alloc ?_ _)); exact BK106.out⟩, ⟨by repeat (first | (with_reducible first | exact HB.out | apply below_alloc | apply pw_below_drewN | apply below_drew1 | refine below_set ?_ GE101.out | refine below_set ?_ GE102.out | refine below_set ?_ GE106.out) | exact HB.out)⟩⟩
      case round =>
        clear H'
        try clear c1
        try clear c2
        try clear p2
        try clear c3
        try clear c7
        try clear c10
        try clear c13
        try clear c14
        try clear c16
        try clear c17
        try clear c18
        try clear c19
        try clear c21
        try clear c26
        try clear c27
        try clear c28
        try clear c30
        try clear c35
        try clear c36
        try clear hcz15_0
        try clear hcz15_1
        try clear hcz15_2
        try clear hcz20_0
        try clear hcz20_1
        try clear hcz20_2
        try clear hcz22_0
        try clear hcz22_1
        try clear hcz25_0
        try clear hcz25_1
        try clear hcz25_2
        try clear hcz29_0
        try clear hcz29_1
        try clear hcz29_2
        try clear hcz31_0
        try clear hcz31_1
        try clear hcz34_0
        try clear hcz34_1
        try clear hcz34_2
        try clear hcz37_0
        try clear hcz37_1
        try clear hcz8_0
        try clear hcz8_1
        try clear hfz15_0
        try clear hfz15_1
        try clear hfz15_2
        try clear hfz20_0
        try clear hfz20_1
        try clear hfz20_2
        try clear hfz22_0
        try clear hfz22_1
        try clear hfz25_0
        try clear hfz25_1
        try clear hfz25_2
        try clear hfz29_0
        try clear hfz29_1
        try clear hfz29_2
        try clear hfz31_0
        try clear hfz31_1
        try clear hfz34_0
        try clear hfz34_1
        try clear hfz34_2
        try clear hfz37_0
        try clear hfz37_1
        try clear hfz8_0
        try clear hfz8_1
        try clear p2
        obtain ⟨x8_2, x107000_2, x107001_2, x107002_2, u107000, u107001, u107002, rfl, HA, HK2, HO_107000, HO_107001, HO_107002, BK101, BK102, BK106, HB⟩ := hrel
        cases gk with
        | zero => exact absurd HA.out (by simp [impl_regionInside.l0])
        | succ k2 =>
          have H := HA.out
          clear HA
          simp only [impl_regionInside.l0] at H
          by_cases c38 : x8_2 < a1_1
          · rw [if_pos c38] at H
            have c38b0 : decide (x8_2 < a1_1) = true := decide_eq_true c38
            clear c38
            have H' := Aside0.mk H
            clear H
            have hnb39 := NB101_102.out
            have hnc39 := NB102_101.out
            have hnb40 := NB101_106.out
            have hnc40 := NB106_101.out
            have hcz41_0 : wr.cell? ⟨gb101, 0, none⟩ = some (.int .i64 a1_0) := (blk_cell BK101.out 0).trans rfl
            have hcz41_1 : wr.cell? ⟨gb101, 1, none⟩ = some (.int .i64 a1_1) := (blk_cell BK101.out 1).trans rfl
            have hfz41_0 := blk_frozen BK101.out 0
            have hfz41_1 := blk_frozen BK101.out 1
            go_wp2
            go_loopg [9, 39] k2 (fun kq v9 v39 w' => ∃ (x9_3 : Int) (x39_3 : Int), v9 = .int .i64 x9_3 ∧ v39 = .int .i64 x39_3 ∧ Aside0 (impl_regionInside.l1 kq l0 a2 x8_2 x9_3 l0 (l0.length : Int) x39_3 a1_0 a1_1 x107000_2 x107001_2 x107002_2 = some (r1, r2, r3)) ∧ Aside0 (kq ≤ k2) ∧ Aside0 (Kd.R (Kd.int .i64) 3 w' w.heap.size (fun k_ => some k_ ≠ (u107002 : Value).ownBlock) u107000 x107000_2) ∧ Aside0 (Kd.R k64 64 w' w.heap.size (fun k_ => k_ ≠ gb101) u107001 x107001_2) ∧ Aside0 (Kd.R (Kd.int .i64) 3 w' w.heap.size (fun k_ => some k_ ≠ (u107000 : Value).ownBlock) u107002 x107002_2) ∧ Aside0 (w'.heap[gb101]? = some (.cells #[.int .i64 a1_0, .int .i64 a1_1] 64 (0, 0))) ∧ Aside0 (w'.heap[gb102]? = some (.cells #[(.slice none 0 0), (.slice none 0 0), (.slice none 0 0)] 71 (0, 0))) ∧ Aside0 (w'.heap[gb106]? = some (.cells #[u107000, u107001, u107002] 71 (0, 0))) ∧ Aside0 (Below w.heap.size w w'))
            case atStart => exact ⟨(x8_2), (0), (by first | rfl | (simp; done) | (simp [*]; done)), (by first | rfl | (simp; done) | (simp [*]; done)), H', ⟨Nat.le_refl _⟩, ⟨by (with_reducible repeat (first | apply Kd.R_alloc | apply Kd.R_drewN | apply Kd.R_drew)); exact HO_107000.out⟩, ⟨by (with_reducible repeat (first | apply Kd.R_alloc | apply Kd.R_drewN | apply Kd.R_drew)); exact HO_107001.out⟩, ⟨by (with_reducible repeat (first | apply Kd.R_alloc | apply Kd.R_drewN | apply Kd.R_drew)); exact HO_107002.out⟩, ⟨by (with_reducible repeat (first | refine blk_drewN ?_ _ | refine blk_drew ?_ | refine blk_alloc ?_ _)); exact BK101.out⟩, ⟨by (with_reducible repeat (first | refine blk_drewN ?_ _ | refine blk_drew ?_ | refine blk_alloc ?_ _)); exact BK102.out⟩, ⟨by (with_reducible repeat (first | refine blk_drewN ?_ _ | refine blk_drew ?_ | refine blk_alloc ?_ _)); exact BK106.out⟩, ⟨by repeat (first | (with_reducible first | exact HB.out | apply below_alloc | apply pw_below_drewN | apply below_drew1 | refine below_set ?_ GE101.out | refine below_set ?_ GE102.out | refine below_set ?_ GE106.out) | exact HB.out)⟩⟩
            case round =>
              clear H'
              try clear c1
              try clear c2
              try clear p2
              try clear c3
              try clear c4
              try clear c7
              try clear c10
              try clear c13
              try clear c14
              try clear c16
              try clear c17
              try clear c18
              try clear c19
              try clear c21
              try clear c26
              try clear c27
              try clear c28
              try clear c30
              try clear c35
              try clear c36
              try clear c38
              try clear c38b0
              try clear c39
              try clear c40
              try clear hcz15_0
              try clear hcz15_1
              try clear hcz15_2
              try clear hcz20_0
              try clear hcz20_1
              try clear hcz20_2
              try clear hcz22_0
              try clear hcz22_1
              try clear hcz25_0
              try clear hcz25_1
              try clear hcz25_2
              try clear hcz29_0
              try clear hcz29_1
              try clear hcz29_2
              try clear hcz31_0
              try clear hcz31_1
              try clear hcz34_0
              try clear hcz34_1
              try clear hcz34_2
              try clear hcz37_0
              try clear hcz37_1
              try clear hcz41_0
              try clear hcz41_1
              try clear hcz8_0
              try clear hcz8_1
              try clear hfz15_0
              try clear hfz15_1
              try clear hfz15_2
              try clear hfz20_0
              try clear hfz20_1
              try clear hfz20_2
              try clear hfz22_0
              try clear hfz22_1
              try clear hfz25_0
              try clear hfz25_1
              try clear hfz25_2
              try clear hfz29_0
              try clear hfz29_1
              try clear hfz29_2
              try clear hfz31_0
              try clear hfz31_1
              try clear hfz34_0
              try clear hfz34_1
              try clear hfz34_2
              try clear hfz37_0
              try clear hfz37_1
              try clear hfz41_0
              try clear hfz41_1
              try clear hfz8_0
              try clear hfz8_1
              try clear p2
              obtain ⟨x9_3, x39_3, rfl, rfl, HA, HK3, HO_107000, HO_107001, HO_107002, BK101, BK102, BK106, HB⟩ := hrel
              cases gk with
              | zero => exact absurd HA.out (by simp [impl_regionInside.l1])
              | succ k3 =>
                have H := HA.out
                clear HA
                simp only [impl_regionInside.l1] at H
                by_cases c42 : x39_3 < (l0.length : Int)
                · rw [if_pos c42] at H
                  have c42b0 : decide (x39_3 < (l0.length : Int)) = true := decide_eq_true c42
                  clear c42
                  by_cases c43 : 0 ≤ x39_3
                  · rw [if_pos c43] at H
                    have c43b0 : decide (0 ≤ x39_3) = true := decide_eq_true c43
                    clear c43
                    by_cases c44 : x39_3 < (l0.length : Int)
                    · rw [if_pos c44] at H
                      have c44b0 : decide (x39_3 < (l0.length : Int)) = true := decide_eq_true c44
                      clear c44
                      by_cases c45 : ((rd_T64 l0 x39_3).f0) = x8_2
                      · rw [if_pos c45] at H
                        have c45b0 : (((rd_T64 l0 x39_3).f0) == x8_2) = true := beq_iff_eq.mpr c45
                        have c45b1 : (((rd_T64 l0 x39_3).f0) != x8_2) = false := bne_eq_false_iff_eq.mpr c45
                        clear c45
                        by_cases c46 : ((rd_T64 l0 x39_3).f1) ≤ a1_1
                        · rw [if_pos c46] at H
                          have c46b0 : decide (((rd_T64 l0 x39_3).f1) ≤ a1_1) = true := decide_eq_true c46
                          clear c46
                          by_cases c47 : ((rd_T64 l0 x39_3).f1) > x9_3
                          · rw [if_pos c47] at H
                            have c47b0 : decide (x9_3 < ((rd_T64 l0 x39_3).f1)) = true := decide_eq_true c47
                            clear c47
                            by_cases c48 : a2 = true
                            · subst c48
                              have H1 : (if ((((rd_T64 l0 x39_3).f0) == a1_0 && (((rd_T64 l0 x39_3).f1) == a1_1)) = true) then (impl_regionInside.l1 k3 l0 true x8_2 x9_3 l0 (l0.length : Int) (wrap64 (x39_3 + 1)) a1_0 a1_1 x107000_2 x107001_2 x107002_2) else (impl_regionInside.l1 k3 l0 true x8_2 ((rd_T64 l0 x39_3).f1) l0 (l0.length : Int) (wrap64 (x39_3 + 1)) a1_0 a1_1 x107000_2 x107001_2 x107002_2)) = some (r1, r2, r3) := by rw [if_pos rfl] at H; exact H
                              clear H
                              have H := H1
                              clear H1
                              by_cases c49 : ((((rd_T64 l0 x39_3).f0) == a1_0 && (((rd_T64 l0 x39_3).f1) == a1_1)) = true)
                              · rw [if_pos c49] at H
                                have c49b0 : (((rd_T64 l0 x39_3).f0) == a1_0 && (((rd_T64 l0 x39_3).f1) == a1_1)) = true := c49
                                (try (have c49b1 : decide (((rd_T64 l0 x39_3).f0) = a1_0 && (((rd_T64 l0 x39_3).f1) == a1_1)) = true := by simpa using c49))
                                (try (have c49b2 : (((rd_T64 l0 x39_3).f0) == a1_0 && (((rd_T64 l0 x39_3).f1) == a1_1)) = true := by simpa using c49))
                                clear c49
                                have H' := Aside0.mk H
                                clear H
                                have p113 : 0 ≤ (x39_3 : Int) := of_decide_eq_true (by first | (with_reducible assumption) | assumption)
                                have q113 : x39_3 < (l0.length : Int) := of_decide_eq_true (by first | (with_reducible assumption) | assumption)
                                obtain ⟨ad113, e113, hx113_0, hx113_1⟩ := at_T64 HR0.out x39_3 p113 q113
                                cases e113
                                try replace hx113_0 := (HB.out.cell (World.block_lt_of_cell? w _ hx113_0)).trans hx113_0
                                try replace hx113_1 := (HB.out.cell (World.block_lt_of_cell? w _ hx113_1)).trans hx113_1
                                replace p113 := eq_true p113
                                replace q113 := eq_true q113
                                go_wp2_with (first | ((with_reducible refine gate_dst (N := 11) rfl ?_); refine box_event ?hg (N := 11) ?hd (cs := #[.int .i64 0, .int .i64 0]) (t := 64) ?hr ?_; (case hd => rfl); (case hg => rfl); (case hr => first | (go_simp; done) | (go_simp; rfl)); intro gb114 hg w50 hbox hb; have n0_ := Aside0.mk (Kd.R_below (by (with_reducible repeat (first | apply Kd.R_alloc | apply Kd.R_drewN | apply Kd.R_drew)); exact HO_107000.out) hb); have n1_ := Aside0.mk (Kd.R_below (Kd.R_elderB (by (with_reducible repeat (first | apply Kd.R_alloc | apply Kd.R_drewN | apply Kd.R_drew)); exact HO_107001.out) gb114 (Nat.le_of_eq hg.symm)) hb); have n2_ := Aside0.mk (Kd.R_below (by (with_reducible repeat (first | apply Kd.R_alloc | apply Kd.R_drewN | apply Kd.R_drew)); exact HO_107002.out) hb); have n3_ := Aside0.mk (blk_below (g := gb101) (o := .cells #[.int .i64 a1_0, .int .i64 a1_1] 64 (0, 0)) (by (with_reducible repeat (first | refine blk_drewN ?_ _ | refine blk_drew ?_ | refine blk_alloc ?_ _)); exact BK101.out) hb); have n4_ := Aside0.mk (blk_below (g := gb102) (o := .cells #[.slice none 0 0, .slice none 0 0, .slice none 0 0] 71 (0, 0)) (by (with_reducible repeat (first | refine blk_drewN ?_ _ | refine blk_drew ?_ | refine blk_alloc ?_ _)); exact BK102.out) hb); have n5_ := Aside0.mk (blk_below (g := gb106) (o := .cells #[u107000, u107001, u107002] 71 (0, 0)) (by (with_reducible repeat (first | refine blk_drewN ?_ _ | refine blk_drew ?_ | refine blk_alloc ?_ _)); exact BK106.out) hb); have n6_ := Aside0.mk (below_step (by repeat (first | (with_reducible first | exact HB.out | apply below_alloc | apply pw_below_drewN | apply below_drew1 | refine below_set ?_ GE101.out | refine below_set ?_ GE102.out | refine below_set ?_ GE106.out) | exact HB.out)) hb); have n7_ := Aside0.mk (hbox); have n8_ := Aside0.mk ((by rw [hg]; exact (below_size (by repeat (first | (with_reducible first | exact HB.out | apply below_alloc | apply pw_below_drewN | apply below_drew1 | refine below_set ?_ GE101.out | refine below_set ?_ GE102.out | refine below_set ?_ GE106.out) | exact HB.out))) : w.heap.size ≤ gb114)); have n9_ := Aside0.mk ((by rw [hg]; exact (below_size (by repeat (first | (with_reducible first | exact HB.out | apply below_alloc | apply pw_below_drewN | apply below_drew1 | refine below_set ?_ GE101.out | refine below_set ?_ GE102.out | refine below_set ?_ GE106.out) | exact HB.out))) : w.heap.size ≤ gb114)); have n10_ := Aside0.mk ((by rw [hg]; exact Nat.ne_of_lt (blk_lt (g := gb101) (o := .cells #[.int .i64 a1_0, .int .i64 a1_1] 64 (0, 0)) (by (with_reducible repeat (first | refine blk_drewN ?_ _ | refine blk_drew ?_ | refine blk_alloc ?_ _)); exact BK101.out)) : gb101 ≠ gb114)); have n11_ := Aside0.mk ((by rw [hg]; exact Nat.ne_of_gt (blk_lt (g := gb101) (o := .cells #[.int .i64 a1_0, .int .i64 a1_1] 64 (0, 0)) (by (with_reducible repeat (first | refine blk_drewN ?_ _ | refine blk_drew ?_ | refine blk_alloc ?_ _)); exact BK101.out)) : gb114 ≠ gb101)); have n12_ := Aside0.mk ((by rw [hg]; exact Nat.ne_of_lt (blk_lt (g := gb102) (o := .cells #[.slice none 0 0, .slice none 0 0, .slice none 0 0] 71 (0, 0)) (by (with_reducible repeat (first | refine blk_drewN ?_ _ | refine blk_drew ?_ | refine blk_alloc ?_ _)); exact BK102.out)) : gb102 ≠ gb114)); have n13_ := Aside0.mk ((by rw [hg]; exact Nat.ne_of_gt (blk_lt (g := gb102) (o := .cells #[.slice none 0 0, .slice none 0 0, .slice none 0 0] 71 (0, 0)) (by (with_reducible repeat (first | refine blk_drewN ?_ _ | refine blk_drew ?_ | refine blk_alloc ?_ _)); exact BK102.out)) : gb114 ≠ gb102)); have n14_ := Aside0.mk ((by rw [hg]; exact Nat.ne_of_lt (blk_lt (g := gb106) (o := .cells #[u107000, u107001, u107002] 71 (0, 0)) (by (with_reducible repeat (first | refine blk_drewN ?_ _ | refine blk_drew ?_ | refine blk_alloc ?_ _)); exact BK106.out)) : gb106 ≠ gb114)); have n15_ := Aside0.mk ((by rw [hg]; exact Nat.ne_of_gt (blk_lt (g := gb106) (o := .cells #[u107000, u107001, u107002] 71 (0, 0)) (by (with_reducible repeat (first | refine blk_drewN ?_ _ | refine blk_drew ?_ | refine blk_alloc ?_ _)); exact BK106.out)) : gb114 ≠ gb106)); clear HO_107000; clear HO_107001; clear HO_107002; clear BK101; clear BK102; clear BK106; clear HB; have HO_107000 := n0_; have HO_107001 := n1_; have HO_107002 := n2_; have BK101 := n3_; have BK102 := n4_; have BK106 := n5_; have HB := n6_; have BK114 := n7_; have GW114 := n8_; have GE114 := n9_; have NB101_114 := n10_; have NB114_101 := n11_; have NB102_114 := n12_; have NB114_102 := n13_; have NB106_114 := n14_; have NB114_106 := n15_; clear n0_ n1_ n2_ n3_ n4_ n5_ n6_ n7_ n8_ n9_ n10_ n11_ n12_ n13_ n14_ n15_; clear hb hbox hg; have hnb51 := NB114_101.out; have hnc51 := NB101_114.out; have hnb52 := NB114_102.out; have hnc52 := NB102_114.out; have hnb53 := NB114_106.out; have hnc53 := NB106_114.out; have hcz54_0 : w50.cell? ⟨gb114, 0, none⟩ = some (.int .i64 0) := (blk_cell BK114.out 0).trans rfl; have hcz54_1 : w50.cell? ⟨gb114, 1, none⟩ = some (.int .i64 0) := (blk_cell BK114.out 1).trans rfl; have hfz54_0 := blk_frozen BK114.out 0; have hfz54_1 := blk_frozen BK114.out 1; have hnb55 := NB101_102.out; have hnc55 := NB102_101.out; have hnb56 := NB101_106.out; have hnc56 := NB106_101.out; have hcz57_0 : w50.cell? ⟨gb101, 0, none⟩ = some (.int .i64 a1_0) := (blk_cell BK101.out 0).trans rfl; have hcz57_1 : w50.cell? ⟨gb101, 1, none⟩ = some (.int .i64 a1_1) := (blk_cell BK101.out 1).trans rfl; have hfz57_0 := blk_frozen BK101.out 0; have hfz57_1 := blk_frozen BK101.out 1))
                                go_roundg k3
                                case measure => have := HJ3.out; have := HK2.out; have := HK3.out; omega
                                case rel => exact ⟨(x9_3), (wrap64 (x39_3 + 1)), (by first | rfl | (simp; done) | (simp [*]; done)), (by first | rfl | (simp; done) | (simp [*]; done)), H', ⟨by have := HJ3.out; have := HK2.out; have := HK3.out; omega⟩, ⟨by (with_reducible repeat (first | apply Kd.R_alloc | apply Kd.R_drewN | apply Kd.R_drew)); exact Kd.R_mono (Kd.R_far (p := ⟨gb114, 1, none⟩) (Kd.R_far (p := ⟨gb114, 0, none⟩) (Kd.R_types HO_107000.out BK114.out (by decide)) (fun _ hk => hk.2) (.int .i64 ((rd_T64 l0 x39_3).f0))) (fun _ hk => hk.2) (.int .i64 ((rd_T64 l0 x39_3).f1))) (fun _ hk => hk.1)⟩, ⟨by (with_reducible repeat (first | apply Kd.R_alloc | apply Kd.R_drewN | apply Kd.R_drew)); exact Kd.R_mono (Kd.R_far (p := ⟨gb114, 1, none⟩) (Kd.R_far (p := ⟨gb114, 0, none⟩) (Kd.R_mono HO_107001.out (fun k_ hk => (⟨hk, hk.2⟩ : _ ∧ k_ ≠ gb114))) (fun _ hk => hk.2) (.int .i64 ((rd_T64 l0 x39_3).f0))) (fun _ hk => hk.2) (.int .i64 ((rd_T64 l0 x39_3).f1))) (fun _ hk => hk.1.1)⟩, ⟨by (with_reducible repeat (first | apply Kd.R_alloc | apply Kd.R_drewN | apply Kd.R_drew)); exact Kd.R_mono (Kd.R_far (p := ⟨gb114, 1, none⟩) (Kd.R_far (p := ⟨gb114, 0, none⟩) (Kd.R_types HO_107002.out BK114.out (by decide)) (fun _ hk => hk.2) (.int .i64 ((rd_T64 l0 x39_3).f0))) (fun _ hk => hk.2) (.int .i64 ((rd_T64 l0 x39_3).f1))) (fun _ hk => hk.1)⟩, ⟨by (with_reducible repeat (first | refine blk_drewN ?_ _ | refine blk_drew ?_ | refine blk_alloc ?_ _)); refine blk_far ?_ NB101_114.out _; (with_reducible repeat (first | refine blk_drewN ?_ _ | refine blk_drew ?_ | refine blk_alloc ?_ _)); refine blk_far ?_ NB101_114.out _; (with_reducible repeat (first | refine blk_drewN ?_ _ | refine blk_drew ?_ | refine blk_alloc ?_ _)); exact BK101.out⟩, ⟨by (with_reducible repeat (first | refine blk_drewN ?_ _ | refine blk_drew ?_ | refine blk_alloc ?_ _)); refine blk_far ?_ NB102_114.out _; (with_reducible repeat (first | refine blk_drewN ?_ _ | refine blk_drew ?_ | refine blk_alloc ?_ _)); refine blk_far ?_ NB102_114.out _; (with_reducible repeat (first | refine blk_drewN ?_ _ | refine blk_drew ?_ | refine blk_alloc ?_ _)); exact BK102.out⟩, ⟨by (with_reducible repeat (first | refine blk_drewN ?_ _ | refine blk_drew ?_ | refine blk_alloc ?_ _)); refine blk_far ?_ NB106_114.out _; (with_reducible repeat (first | refine blk_drewN ?_ _ | refine blk_drew ?_ | refine blk_alloc ?_ _)); refine blk_far ?_ NB106_114.out _; (with_reducible repeat (first | refine blk_drewN ?_ _ | refine blk_drew ?_ | refine blk_alloc ?_ _)); exact BK106.out⟩, ⟨by repeat (first | (with_reducible first | exact HB.out | apply below_alloc | apply pw_below_drewN | apply below_drew1 | refine below_set ?_ GE101.out | refine below_set ?_ GE102.out | refine below_set ?_ GE106.out | refine below_set ?_ GE114.out) | exact HB.out)⟩⟩
                              · rw [if_neg c49] at H
                                have c49b0 : (((rd_T64 l0 x39_3).f0) == a1_0 && (((rd_T64 l0 x39_3).f1) == a1_1)) = false := by simpa using c49
                                (try (have c49b1 : decide (((rd_T64 l0 x39_3).f0) = a1_0 && (((rd_T64 l0 x39_3).f1) == a1_1)) = false := by simpa using c49))
                                (try (have c49b2 : (((rd_T64 l0 x39_3).f0) == a1_0 && (((rd_T64 l0 x39_3).f1) == a1_1)) = false := by simpa using c49))
                                (try (have c49b3 : ¬ (((rd_T64 l0 x39_3).f0) = a1_0 && (((rd_T64 l0 x39_3).f1) == a1_1)) := by simpa using c49))
                                clear c49
                                have H' := Aside0.mk H
                                clear H
                                have p113 : 0 ≤ (x39_3 : Int) := of_decide_eq_true (by first | (with_reducible assumption) | assumption)
                                have q113 : x39_3 < (l0.length : Int) := of_decide_eq_true (by first | (with_reducible assumption) | assumption)
                                obtain ⟨ad113, e113, hx113_0, hx113_1⟩ := at_T64 HR0.out x39_3 p113 q113
                                cases e113
                                try replace hx113_0 := (HB.out.cell (World.block_lt_of_cell? w _ hx113_0)).trans hx113_0
                                try replace hx113_1 := (HB.out.cell (World.block_lt_of_cell? w _ hx113_1)).trans hx113_1
                                replace p113 := eq_true p113
                                replace q113 := eq_true q113
                                go_wp2_with (first | ((with_reducible refine gate_dst (N := 11) rfl ?_); refine box_event ?hg (N := 11) ?hd (cs := #[.int .i64 0, .int .i64 0]) (t := 64) ?hr ?_; (case hd => rfl); (case hg => rfl); (case hr => first | (go_simp; done) | (go_simp; rfl)); intro gb114 hg w58 hbox hb; have n0_ := Aside0.mk (Kd.R_below (by (with_reducible repeat (first | apply Kd.R_alloc | apply Kd.R_drewN | apply Kd.R_drew)); exact HO_107000.out) hb); have n1_ := Aside0.mk (Kd.R_below (Kd.R_elderB (by (with_reducible repeat (first | apply Kd.R_alloc | apply Kd.R_drewN | apply Kd.R_drew)); exact HO_107001.out) gb114 (Nat.le_of_eq hg.symm)) hb); have n2_ := Aside0.mk (Kd.R_below (by (with_reducible repeat (first | apply Kd.R_alloc | apply Kd.R_drewN | apply Kd.R_drew)); exact HO_107002.out) hb); have n3_ := Aside0.mk (blk_below (g := gb101) (o := .cells #[.int .i64 a1_0, .int .i64 a1_1] 64 (0, 0)) (by (with_reducible repeat (first | refine blk_drewN ?_ _ | refine blk_drew ?_ | refine blk_alloc ?_ _)); exact BK101.out) hb); have n4_ := Aside0.mk (blk_below (g := gb102) (o := .cells #[.slice none 0 0, .slice none 0 0, .slice none 0 0] 71 (0, 0)) (by (with_reducible repeat (first | refine blk_drewN ?_ _ | refine blk_drew ?_ | refine blk_alloc ?_ _)); exact BK102.out) hb); have n5_ := Aside0.mk (blk_below (g := gb106) (o := .cells #[u107000, u107001, u107002] 71 (0, 0)) (by (with_reducible repeat (first | refine blk_drewN ?_ _ | refine blk_drew ?_ | refine blk_alloc ?_ _)); exact BK106.out) hb); have n6_ := Aside0.mk (below_step (by repeat (first | (with_reducible first | exact HB.out | apply below_alloc | apply pw_below_drewN | apply below_drew1 | refine below_set ?_ GE101.out | refine below_set ?_ GE102.out | refine below_set ?_ GE106.out) | exact HB.out)) hb); have n7_ := Aside0.mk (hbox); have n8_ := Aside0.mk ((by rw [hg]; exact (below_size (by repeat (first | (with_reducible first | exact HB.out | apply below_alloc | apply pw_below_drewN | apply below_drew1 | refine below_set ?_ GE101.out | refine below_set ?_ GE102.out | refine below_set ?_ GE106.out) | exact HB.out))) : w.heap.size ≤ gb114)); have n9_ := Aside0.mk ((by rw [hg]; exact (below_size (by repeat (first | (with_reducible first | exact HB.out | apply below_alloc | apply pw_below_drewN | apply below_drew1 | refine below_set ?_ GE101.out | refine below_set ?_ GE102.out | refine below_set ?_ GE106.out) | exact HB.out))) : w.heap.size ≤ gb114)); have n10_ := Aside0.mk ((by rw [hg]; exact Nat.ne_of_lt (blk_lt (g := gb101) (o := .cells #[.int .i64 a1_0, .int .i64 a1_1] 64 (0, 0)) (by (with_reducible repeat (first | refine blk_drewN ?_ _ | refine blk_drew ?_ | refine blk_alloc ?_ _)); exact BK101.out)) : gb101 ≠ gb114)); have n11_ := Aside0.mk ((by rw [hg]; exact Nat.ne_of_gt (blk_lt (g := gb101) (o := .cells #[.int .i64 a1_0, .int .i64 a1_1] 64 (0, 0)) (by (with_reducible repeat (first | refine blk_drewN ?_ _ | refine blk_drew ?_ | refine blk_alloc ?_ _)); exact BK101.out)) : gb114 ≠ gb101)); have n12_ := Aside0.mk ((by rw [hg]; exact Nat.ne_of_lt (blk_lt (g := gb102) (o := .cells #[.slice none 0 0, .slice none 0 0, .slice none 0 0] 71 (0, 0)) (by (with_reducible repeat (first | refine blk_drewN ?_ _ | refine blk_drew ?_ | refine blk_alloc ?_ _)); exact BK102.out)) : gb102 ≠ gb114)); have n13_ := Aside0.mk ((by rw [hg]; exact Nat.ne_of_gt (blk_lt (g := gb102) (o := .cells #[.slice none 0 0, .slice none 0 0, .slice none 0 0] 71 (0, 0)) (by (with_reducible repeat (first | refine blk_drewN ?_ _ | refine blk_drew ?_ | refine blk_alloc ?_ _)); exact BK102.out)) : gb114 ≠ gb102)); have n14_ := Aside0.mk ((by rw [hg]; exact Nat.ne_of_lt (blk_lt (g := gb106) (o := .cells #[u107000, u107001, u107002] 71 (0, 0)) (by (with_reducible repeat (first | refine blk_drewN ?_ _ | refine blk_drew ?_ | refine blk_alloc ?_ _)); exact BK106.out)) : gb106 ≠ gb114)); have n15_ := Aside0.mk ((by rw [hg]; exact Nat.ne_of_gt (blk_lt (g := gb106) (o := .cells #[u107000, u107001, u107002] 71 (0, 0)) (by (with_reducible repeat (first | refine blk_drewN ?_ _ | refine blk_drew ?_ | refine blk_alloc ?_ _)); exact BK106.out)) : gb114 ≠ gb106)); clear HO_107000; clear HO_107001; clear HO_107002; clear BK101; clear BK102; clear BK106; clear HB; have HO_107000 := n0_; have HO_107001 := n1_; have HO_107002 := n2_; have BK101 := n3_; have BK102 := n4_; have BK106 := n5_; have HB := n6_; have BK114 := n7_; have GW114 := n8_; have GE114 := n9_; have NB101_114 := n10_; have NB114_101 := n11_; have NB102_114 := n12_; have NB114_102 := n13_; have NB106_114 := n14_; have NB114_106 := n15_; clear n0_ n1_ n2_ n3_ n4_ n5_ n6_ n7_ n8_ n9_ n10_ n11_ n12_ n13_ n14_ n15_; clear hb hbox hg; have hnb59 := NB114_101.out; have hnc59 := NB101_114.out; have hnb60 := NB114_102.out; have hnc60 := NB102_114.out; have hnb61 := NB114_106.out; have hnc61 := NB106_114.out; have hcz62_0 : w58.cell? ⟨gb114, 0, none⟩ = some (.int .i64 0) := (blk_cell BK114.out 0).trans rfl; have hcz62_1 : w58.cell? ⟨gb114, 1, none⟩ = some (.int .i64 0) := (blk_cell BK114.out 1).trans rfl; have hfz62_0 := blk_frozen BK114.out 0; have hfz62_1 := blk_frozen BK114.out 1; have hnb63 := NB101_102.out; have hnc63 := NB102_101.out; have hnb64 := NB101_106.out; have hnc64 := NB106_101.out; have hcz65_0 : w58.cell? ⟨gb101, 0, none⟩ = some (.int .i64 a1_0) := (blk_cell BK101.out 0).trans rfl; have hcz65_1 : w58.cell? ⟨gb101, 1, none⟩ = some (.int .i64 a1_1) := (blk_cell BK101.out 1).trans rfl; have hfz65_0 := blk_frozen BK101.out 0; have hfz65_1 := blk_frozen BK101.out 1))
                                go_roundg k3
                                case measure => have := HJ3.out; have := HK2.out; have := HK3.out; omega
                                case rel => exact ⟨((rd_T64 l0 x39_3).f1), (wrap64 (x39_3 + 1)), (by first | rfl | (simp; done) | (simp [*]; done)), (by first | rfl | (simp; done) | (simp [*]; done)), H', ⟨by have := HJ3.out; have := HK2.out; have := HK3.out; omega⟩, ⟨by (with_reducible repeat (first | apply Kd.R_alloc | apply Kd.R_drewN | apply Kd.R_drew)); exact Kd.R_mono (Kd.R_far (p := ⟨gb114, 1, none⟩) (Kd.R_far (p := ⟨gb114, 0, none⟩) (Kd.R_types HO_107000.out BK114.out (by decide)) (fun _ hk => hk.2) (.int .i64 ((rd_T64 l0 x39_3).f0))) (fun _ hk => hk.2) (.int .i64 ((rd_T64 l0 x39_3).f1))) (fun _ hk => hk.1)⟩, ⟨by (with_reducible repeat (first | apply Kd.R_alloc | apply Kd.R_drewN | apply Kd.R_drew)); exact Kd.R_mono (Kd.R_far (p := ⟨gb114, 1, none⟩) (Kd.R_far (p := ⟨gb114, 0, none⟩) (Kd.R_mono HO_107001.out (fun k_ hk => (⟨hk, hk.2⟩ : _ ∧ k_ ≠ gb114))) (fun _ hk => hk.2) (.int .i64 ((rd_T64 l0 x39_3).f0))) (fun _ hk => hk.2) (.int .i64 ((rd_T64 l0 x39_3).f1))) (fun _ hk => hk.1.1)⟩, ⟨by (with_reducible repeat (first | apply Kd.R_alloc | apply Kd.R_drewN | apply Kd.R_drew)); exact Kd.R_mono (Kd.R_far (p := ⟨gb114, 1, none⟩) (Kd.R_far (p := ⟨gb114, 0, none⟩) (Kd.R_types HO_107002.out BK114.out (by decide)) (fun _ hk => hk.2) (.int .i64 ((rd_T64 l0 x39_3).f0))) (fun _ hk => hk.2) (.int .i64 ((rd_T64 l0 x39_3).f1))) (fun _ hk => hk.1)⟩, ⟨by (with_reducible repeat (first | refine blk_drewN ?_ _ | refine blk_drew ?_ | refine blk_alloc ?_ _)); refine blk_far ?_ NB101_114.out _; (with_reducible repeat (first | refine blk_drewN ?_ _ | refine blk_drew ?_ | refine blk_alloc ?_ _)); refine blk_far ?_ NB101_114.out _; (with_reducible repeat (first | refine blk_drewN ?_ _ | refine blk_drew ?_ | refine blk_alloc ?_ _)); exact BK101.out⟩, ⟨by (with_reducible repeat (first | refine blk_drewN ?_ _ | refine blk_drew ?_ | refine blk_alloc ?_ _)); refine blk_far ?_ NB102_114.out _; (with_reducible repeat (first | refine blk_drewN ?_ _ | refine blk_drew ?_ | refine blk_alloc ?_ _)); refine blk_far ?_ NB102_114.out _; (with_reducible repeat (first | refine blk_drewN ?_ _ | refine blk_drew ?_ | refine blk_alloc ?_ _)); exact BK102.out⟩, ⟨by (with_reducible repeat (first | refine blk_drewN ?_ _ | refine blk_drew ?_ | refine blk_alloc ?_ _)); refine blk_far ?_ NB106_114.out _; (with_reducible repeat (first | refine blk_drewN ?_ _ | refine blk_drew ?_ | refine blk_alloc ?_ _)); refine blk_far ?_ NB106_114.out _; (with_reducible repeat (first | refine blk_drewN ?_ _ | refine blk_drew ?_ | refine blk_alloc ?_ _)); exact BK106.out⟩, ⟨by repeat (first | (with_reducible first | exact HB.out | apply below_alloc | apply pw_below_drewN | apply below_drew1 | refine below_set ?_ GE101.out | refine below_set ?_ GE102.out | refine below_set ?_ GE106.out | refine below_set ?_ GE114.out) | exact HB.out)⟩⟩
                            · replace c48 := Bool.eq_false_iff.mpr c48
                              subst c48
                              have H1 : (impl_regionInside.l1 k3 l0 false x8_2 ((rd_T64 l0 x39_3).f1) l0 (l0.length : Int) (wrap64 (x39_3 + 1)) a1_0 a1_1 x107000_2 x107001_2 x107002_2) = some (r1, r2, r3) := by rw [if_neg (show ¬ (false = true) by decide)] at H; exact H
                              clear H
                              have H := H1
                              clear H1
                              have H' := Aside0.mk H
                              clear H
                              have p113 : 0 ≤ (x39_3 : Int) := of_decide_eq_true (by first | (with_reducible assumption) | assumption)
                              have q113 : x39_3 < (l0.length : Int) := of_decide_eq_true (by first | (with_reducible assumption) | assumption)
                              obtain ⟨ad113, e113, hx113_0, hx113_1⟩ := at_T64 HR0.out x39_3 p113 q113
                              cases e113
                              try replace hx113_0 := (HB.out.cell (World.block_lt_of_cell? w _ hx113_0)).trans hx113_0
                              try replace hx113_1 := (HB.out.cell (World.block_lt_of_cell? w _ hx113_1)).trans hx113_1
                              replace p113 := eq_true p113
                              replace q113 := eq_true q113
                              go_wp2_with (first | ((with_reducible refine gate_dst (N := 11) rfl ?_); refine box_event ?hg (N := 11) ?hd (cs := #[.int .i64 0, .int .i64 0]) (t := 64) ?hr ?_; (case hd => rfl); (case hg => rfl); (case hr => first | (go_simp; done) | (go_simp; rfl)); intro gb114 hg w66 hbox hb; have n0_ := Aside0.mk (Kd.R_below (by (with_reducible repeat (first | apply Kd.R_alloc | apply Kd.R_drewN | apply Kd.R_drew)); exact HO_107000.out) hb); have n1_ := Aside0.mk (Kd.R_below (Kd.R_elderB (by (with_reducible repeat (first | apply Kd.R_alloc | apply Kd.R_drewN | apply Kd.R_drew)); exact HO_107001.out) gb114 (Nat.le_of_eq hg.symm)) hb); have n2_ := Aside0.mk (Kd.R_below (by (with_reducible repeat (first | apply Kd.R_alloc | apply Kd.R_drewN | apply Kd.R_drew)); exact HO_107002.out) hb); have n3_ := Aside0.mk (blk_below (g := gb101) (o := .cells #[.int .i64 a1_0, .int .i64 a1_1] 64 (0, 0)) (by (with_reducible repeat (first | refine blk_drewN ?_ _ | refine blk_drew ?_ | refine blk_alloc ?_ _)); exact BK101.out) hb); have n4_ := Aside0.mk (blk_below (g := gb102) (o := .cells #[.slice none 0 0, .slice none 0 0, .slice none 0 0] 71 (0, 0)) (by (with_reducible repeat (first | refine blk_drewN ?_ _ | refine blk_drew ?_ | refine blk_alloc ?_ _)); exact BK102.out) hb); have n5_ := Aside0.mk (blk_below (g := gb106) (o := .cells #[u107000, u107001, u107002] 71 (0, 0)) (by (with_reducible repeat (first | refine blk_drewN ?_ _ | refine blk_drew ?_ | refine blk_alloc ?_ _)); exact BK106.out) hb); have n6_ := Aside0.mk (below_step (by repeat (first | (with_reducible first | exact HB.out | apply below_alloc | apply pw_below_drewN | apply below_drew1 | refine below_set ?_ GE101.out | refine below_set ?_ GE102.out | refine below_set ?_ GE106.out) | exact HB.out)) hb); have n7_ := Aside0.mk (hbox); have n8_ := Aside0.mk ((by rw [hg]; exact (below_size (by repeat (first | (with_reducible first | exact HB.out | apply below_alloc | apply pw_below_drewN | apply below_drew1 | refine below_set ?_ GE101.out | refine below_set ?_ GE102.out | refine below_set ?_ GE106.out) | exact HB.out))) : w.heap.size ≤ gb114)); have n9_ := Aside0.mk ((by rw [hg]; exact (below_size (by repeat (first | (with_reducible first | exact HB.out | apply below_alloc | apply pw_below_drewN | apply below_drew1 | refine below_set ?_ GE101.out | refine below_set ?_ GE102.out | refine below_set ?_ GE106.out) | exact HB.out))) : w.heap.size ≤ gb114)); have n10_ := Aside0.mk ((by rw [hg]; exact Nat.ne_of_lt (blk_lt (g := gb101) (o := .cells #[.int .i64 a1_0, .int .i64 a1_1] 64 (0, 0)) (by (with_reducible repeat (first | refine blk_drewN ?_ _ | refine blk_drew ?_ | refine blk_alloc ?_ _)); exact BK101.out)) : gb101 ≠ gb114)); have n11_ := Aside0.mk ((by rw [hg]; exact Nat.ne_of_gt (blk_lt (g := gb101) (o := .cells #[.int .i64 a1_0, .int .i64 a1_1] 64 (0, 0)) (by (with_reducible repeat (first | refine blk_drewN ?_ _ | refine blk_drew ?_ | refine blk_alloc ?_ _)); exact BK101.out)) : gb114 ≠ gb101)); have n12_ := Aside0.mk ((by rw [hg]; exact Nat.ne_of_lt (blk_lt (g := gb102) (o := .cells #[.slice none 0 0, .slice none 0 0, .slice none 0 0] 71 (0, 0)) (by (with_reducible repeat (first | refine blk_drewN ?_ _ | refine blk_drew ?_ | refine blk_alloc ?_ _)); exact BK102.out)) : gb102 ≠ gb114)); have n13_ := Aside0.mk ((by rw [hg]; exact Nat.ne_of_gt (blk_lt (g := gb102) (o := .cells #[.slice none 0 0, .slice none 0 0, .slice none 0 0] 71 (0, 0)) (by (with_reducible repeat (first | refine blk_drewN ?_ _ | refine blk_drew ?_ | refine blk_alloc ?_ _)); exact BK102.out)) : gb114 ≠ gb102)); have n14_ := Aside0.mk ((by rw [hg]; exact Nat.ne_of_lt (blk_lt (g := gb106) (o := .cells #[u107000, u107001, u107002] 71 (0, 0)) (by (with_reducible repeat (first | refine blk_drewN ?_ _ | refine blk_drew ?_ | refine blk_alloc ?_ _)); exact BK106.out)) : gb106 ≠ gb114)); have n15_ := Aside0.mk ((by rw [hg]; exact Nat.ne_of_gt (blk_lt (g := gb106) (o := .cells #[u107000, u107001, u107002] 71 (0, 0)) (by (with_reducible repeat (first | refine blk_drewN ?_ _ | refine blk_drew ?_ | refine blk_alloc ?_ _)); exact BK106.out)) : gb114 ≠ gb106)); clear HO_107000; clear HO_107001; clear HO_107002; clear BK101; clear BK102; clear BK106; clear HB; have HO_107000 := n0_; have HO_107001 := n1_; have HO_107002 := n2_; have BK101 := n3_; have BK102 := n4_; have BK106 := n5_; have HB := n6_; have BK114 := n7_; have GW114 := n8_; have GE114 := n9_; have NB101_114 := n10_; have NB114_101 := n11_; have NB102_114 := n12_; have NB114_102 := n13_; have NB106_114 := n14_; have NB114_106 := n15_; clear n0_ n1_ n2_ n3_ n4_ n5_ n6_ n7_ n8_ n9_ n10_ n11_ n12_ n13_ n14_ n15_; clear hb hbox hg; have hnb67 := NB114_101.out; have hnc67 := NB101_114.out; have hnb68 := NB114_102.out; have hnc68 := NB102_114.out; have hnb69 := NB114_106.out; have hnc69 := NB106_114.out; have hcz70_0 : w66.cell? ⟨gb114, 0, none⟩ = some (.int .i64 0) := (blk_cell BK114.out 0).trans rfl; have hcz70_1 : w66.cell? ⟨gb114, 1, none⟩ = some (.int .i64 0) := (blk_cell BK114.out 1).trans rfl; have hfz70_0 := blk_frozen BK114.out 0; have hfz70_1 := blk_frozen BK114.out 1; have hnb71 := NB101_102.out; have hnc71 := NB102_101.out; have hnb72 := NB101_106.out; have hnc72 := NB106_101.out; have hcz73_0 : w66.cell? ⟨gb101, 0, none⟩ = some (.int .i64 a1_0) := (blk_cell BK101.out 0).trans rfl; have hcz73_1 : w66.cell? ⟨gb101, 1, none⟩ = some (.int .i64 a1_1) := (blk_cell BK101.out 1).trans rfl; have hfz73_0 := blk_frozen BK101.out 0; have hfz73_1 := blk_frozen BK101.out 1))
                              go_roundg k3
                              case measure => have := HJ3.out; have := HK2.out; have := HK3.out; omega
                              case rel => exact ⟨((rd_T64 l0 x39_3).f1), (wrap64 (x39_3 + 1)), (by first | rfl | (simp; done) | (simp [*]; done)), (by first | rfl | (simp; done) | (simp [*]; done)), H', ⟨by have := HJ3.out; have := HK2.out; have := HK3.out; omega⟩, ⟨by (with_reducible repeat (first | apply Kd.R_alloc | apply Kd.R_drewN | apply Kd.R_drew)); exact Kd.R_mono (Kd.R_far (p := ⟨gb114, 1, none⟩) (Kd.R_far (p := ⟨gb114, 0, none⟩) (Kd.R_types HO_107000.out BK114.out (by decide)) (fun _ hk => hk.2) (.int .i64 ((rd_T64 l0 x39_3).f0))) (fun _ hk => hk.2) (.int .i64 ((rd_T64 l0 x39_3).f1))) (fun _ hk => hk.1)⟩, ⟨by (with_reducible repeat (first | apply Kd.R_alloc | apply Kd.R_drewN | apply Kd.R_drew)); exact Kd.R_mono (Kd.R_far (p := ⟨gb114, 1, none⟩) (Kd.R_far (p := ⟨gb114, 0, none⟩) (Kd.R_mono HO_107001.out (fun k_ hk => (⟨hk, hk.2⟩ : _ ∧ k_ ≠ gb114))) (fun _ hk => hk.2) (.int .i64 ((rd_T64 l0 x39_3).f0))) (fun _ hk => hk.2) (.int .i64 ((rd_T64 l0 x39_3).f1))) (fun _ hk => hk.1.1)⟩, ⟨by (with_reducible repeat (first | apply Kd.R_alloc | apply Kd.R_drewN | apply Kd.R_drew)); exact Kd.R_mono (Kd.R_far (p := ⟨gb114, 1, none⟩) (Kd.R_far (p := ⟨gb114, 0, none⟩) (Kd.R_types HO_107002.out BK114.out (by decide)) (fun _ hk => hk.2) (.int .i64 ((rd_T64 l0 x39_3).f0))) (fun _ hk => hk.2) (.int .i64 ((rd_T64 l0 x39_3).f1))) (fun _ hk => hk.1)⟩, ⟨by (with_reducible repeat (first | refine blk_drewN ?_ _ | refine blk_drew ?_ | refine blk_alloc ?_ _)); refine blk_far ?_ NB101_114.out _; (with_reducible repeat (first | refine blk_drewN ?_ _ | refine blk_drew ?_ | refine blk_alloc ?_ _)); refine blk_far ?_ NB101_114.out _; (with_reducible repeat (first | refine blk_drewN ?_ _ | refine blk_drew ?_ | refine blk_alloc ?_ _)); exact BK101.out⟩, ⟨by (with_reducible repeat (first | refine blk_drewN ?_ _ | refine blk_drew ?_ | refine blk_alloc ?_ _)); refine blk_far ?_ NB102_114.out _; (with_reducible repeat (first | refine blk_drewN ?_ _ | refine blk_drew ?_ | refine blk_alloc ?_ _)); refine blk_far ?_ NB102_114.out _; (with_reducible repeat (first | refine blk_drewN ?_ _ | refine blk_drew ?_ | refine blk_alloc ?_ _)); exact BK102.out⟩, ⟨by (with_reducible repeat (first | refine blk_drewN ?_ _ | refine blk_drew ?_ | refine blk_alloc ?_ _)); refine blk_far ?_ NB106_114.out _; (with_reducible repeat (first | refine blk_drewN ?_ _ | refine blk_drew ?_ | refine blk_alloc ?_ _)); refine blk_far ?_ NB106_114.out _; (with_reducible repeat (first | refine blk_drewN ?_ _ | refine blk_drew ?_ | refine blk_alloc ?_ _)); exact BK106.out⟩, ⟨by repeat (first | (with_reducible first | exact HB.out | apply below_alloc | apply pw_below_drewN | apply below_drew1 | refine below_set ?_ GE101.out | refine below_set ?_ GE102.out | refine below_set ?_ GE106.out | refine below_set ?_ GE114.out) | exact HB.out)⟩⟩
                          · rw [if_neg c47] at H
                            have c47b0 : decide (x9_3 < ((rd_T64 l0 x39_3).f1)) = false := decide_eq_false c47
                            clear c47
                            have H' := Aside0.mk H
                            clear H
                            have p113 : 0 ≤ (x39_3 : Int) := of_decide_eq_true (by first | (with_reducible assumption) | assumption)
                            have q113 : x39_3 < (l0.length : Int) := of_decide_eq_true (by first | (with_reducible assumption) | assumption)
                            obtain ⟨ad113, e113, hx113_0, hx113_1⟩ := at_T64 HR0.out x39_3 p113 q113
                            cases e113
                            try replace hx113_0 := (HB.out.cell (World.block_lt_of_cell? w _ hx113_0)).trans hx113_0
                            try replace hx113_1 := (HB.out.cell (World.block_lt_of_cell? w _ hx113_1)).trans hx113_1
                            replace p113 := eq_true p113
                            replace q113 := eq_true q113
                            go_wp2_with (first | ((with_reducible refine gate_dst (N := 11) rfl ?_); refine box_event ?hg (N := 11) ?hd (cs := #[.int .i64 0, .int .i64 0]) (t := 64) ?hr ?_; (case hd => rfl); (case hg => rfl); (case hr => first | (go_simp; done) | (go_simp; rfl)); intro gb114 hg w74 hbox hb; have n0_ := Aside0.mk (Kd.R_below (by (with_reducible repeat (first | apply Kd.R_alloc | apply Kd.R_drewN | apply Kd.R_drew)); exact HO_107000.out) hb); have n1_ := Aside0.mk (Kd.R_below (Kd.R_elderB (by (with_reducible repeat (first | apply Kd.R_alloc | apply Kd.R_drewN | apply Kd.R_drew)); exact HO_107001.out) gb114 (Nat.le_of_eq hg.symm)) hb); have n2_ := Aside0.mk (Kd.R_below (by (with_reducible repeat (first | apply Kd.R_alloc | apply Kd.R_drewN | apply Kd.R_drew)); exact HO_107002.out) hb); have n3_ := Aside0.mk (blk_below (g := gb101) (o := .cells #[.int .i64 a1_0, .int .i64 a1_1] 64 (0, 0)) (by (with_reducible repeat (first | refine blk_drewN ?_ _ | refine blk_drew ?_ | refine blk_alloc ?_ _)); exact BK101.out) hb); have n4_ := Aside0.mk (blk_below (g := gb102) (o := .cells #[.slice none 0 0, .slice none 0 0, .slice none 0 0] 71 (0, 0)) (by (with_reducible repeat (first | refine blk_drewN ?_ _ | refine blk_drew ?_ | refine blk_alloc ?_ _)); exact BK102.out) hb); have n5_ := Aside0.mk (blk_below (g := gb106) (o := .cells #[u107000, u107001, u107002] 71 (0, 0)) (by (with_reducible repeat (first | refine blk_drewN ?_ _ | refine blk_drew ?_ | refine blk_alloc ?_ _)); exact BK106.out) hb); have n6_ := Aside0.mk (below_step (by repeat (first | (with_reducible first | exact HB.out | apply below_alloc | apply pw_below_drewN | apply below_drew1 | refine below_set ?_ GE101.out | refine below_set ?_ GE102.out | refine below_set ?_ GE106.out) | exact HB.out)) hb); have n7_ := Aside0.mk (hbox); have n8_ := Aside0.mk ((by rw [hg]; exact (below_size (by repeat (first | (with_reducible first | exact HB.out | apply below_alloc | apply pw_below_drewN | apply below_drew1 | refine below_set ?_ GE101.out | refine below_set ?_ GE102.out | refine below_set ?_ GE106.out) | exact HB.out))) : w.heap.size ≤ gb114)); have n9_ := Aside0.mk ((by rw [hg]; exact (below_size (by repeat (first | (with_reducible first | exact HB.out | apply below_alloc | apply pw_below_drewN | apply below_drew1 | refine below_set ?_ GE101.out | refine below_set ?_ GE102.out | refine below_set ?_ GE106.out) | exact HB.out))) : w.heap.size ≤ gb114)); have n10_ := Aside0.mk ((by rw [hg]; exact Nat.ne_of_lt (blk_lt (g := gb101) (o := .cells #[.int .i64 a1_0, .int .i64 a1_1] 64 (0, 0)) (by (with_reducible repeat (first | refine blk_drewN ?_ _ | refine blk_drew ?_ | refine blk_alloc ?_ _)); exact BK101.out)) : gb101 ≠ gb114)); have n11_ := Aside0.mk ((by rw [hg]; exact Nat.ne_of_gt (blk_lt (g := gb101) (o := .cells #[.int .i64 a1_0, .int .i64 a1_1] 64 (0, 0)) (by (with_reducible repeat (first | refine blk_drewN ?_ _ | refine blk_drew ?_ | refine blk_alloc ?_ _)); exact BK101.out)) : gb114 ≠ gb101)); have n12_ := Aside0.mk ((by rw [hg]; exact Nat.ne_of_lt (blk_lt (g := gb102) (o := .cells #[.slice none 0 0, .slice none 0 0, .slice none 0 0] 71 (0, 0)) (by (with_reducible repeat (first | refine blk_drewN ?_ _ | refine blk_drew ?_ | refine blk_alloc ?_ _)); exact BK102.out)) : gb102 ≠ gb114)); have n13_ := Aside0.mk ((by rw [hg]; exact Nat.ne_of_gt (blk_lt (g := gb102) (o := .cells #[.slice none 0 0, .slice none 0 0, .slice none 0 0] 71 (0, 0)) (by (with_reducible repeat (first | refine blk_drewN ?_ _ | refine blk_drew ?_ | refine blk_alloc ?_ _)); exact BK102.out)) : gb114 ≠ gb102)); have n14_ := Aside0.mk ((by rw [hg]; exact Nat.ne_of_lt (blk_lt (g := gb106) (o := .cells #[u107000, u107001, u107002] 71 (0, 0)) (by (with_reducible repeat (first | refine blk_drewN ?_ _ | refine blk_drew ?_ | refine blk_alloc ?_ _)); exact BK106.out)) : gb106 ≠ gb114)); have n15_ := Aside0.mk ((by rw [hg]; exact Nat.ne_of_gt (blk_lt (g := gb106) (o := .cells #[u107000, u107001, u107002] 71 (0, 0)) (by (with_reducible repeat (first | refine blk_drewN ?_ _ | refine blk_drew ?_ | refine blk_alloc ?_ _)); exact BK106.out)) : gb114 ≠ gb106)); clear HO_107000; clear HO_107001; clear HO_107002; clear BK101; clear BK102; clear BK106; clear HB; have HO_107000 := n0_; have HO_107001 := n1_; have HO_107002 := n2_; have BK101 := n3_; have BK102 := n4_; have BK106 := n5_; have HB := n6_; have BK114 := n7_; have GW114 := n8_; have GE114 := n9_; have NB101_114 := n10_; have NB114_101 := n11_; have NB102_114 := n12_; have NB114_102 := n13_; have NB106_114 := n14_; have NB114_106 := n15_; clear n0_ n1_ n2_ n3_ n4_ n5_ n6_ n7_ n8_ n9_ n10_ n11_ n12_ n13_ n14_ n15_; clear hb hbox hg; have hnb75 := NB114_101.out; have hnc75 := NB101_114.out; have hnb76 := NB114_102.out; have hnc76 := NB102_114.out; have hnb77 := NB114_106.out; have hnc77 := NB106_114.out; have hcz78_0 : w74.cell? ⟨gb114, 0, none⟩ = some (.int .i64 0) := (blk_cell BK114.out 0).trans rfl; have hcz78_1 : w74.cell? ⟨gb114, 1, none⟩ = some (.int .i64 0) := (blk_cell BK114.out 1).trans rfl; have hfz78_0 := blk_frozen BK114.out 0; have hfz78_1 := blk_frozen BK114.out 1; have hnb79 := NB101_102.out; have hnc79 := NB102_101.out; have hnb80 := NB101_106.out; have hnc80 := NB106_101.out; have hcz81_0 : w74.cell? ⟨gb101, 0, none⟩ = some (.int .i64 a1_0) := (blk_cell BK101.out 0).trans rfl; have hcz81_1 : w74.cell? ⟨gb101, 1, none⟩ = some (.int .i64 a1_1) := (blk_cell BK101.out 1).trans rfl; have hfz81_0 := blk_frozen BK101.out 0; have hfz81_1 := blk_frozen BK101.out 1))
                            go_roundg k3
                            case measure => have := HJ3.out; have := HK2.out; have := HK3.out; omega
                            case rel => exact ⟨(x9_3), (wrap64 (x39_3 + 1)), (by first | rfl | (simp; done) | (simp [*]; done)), (by first | rfl | (simp; done) | (simp [*]; done)), H', ⟨by have := HJ3.out; have := HK2.out; have := HK3.out; omega⟩, ⟨by (with_reducible repeat (first | apply Kd.R_alloc | apply Kd.R_drewN | apply Kd.R_drew)); exact Kd.R_mono (Kd.R_far (p := ⟨gb114, 1, none⟩) (Kd.R_far (p := ⟨gb114, 0, none⟩) (Kd.R_types HO_107000.out BK114.out (by decide)) (fun _ hk => hk.2) (.int .i64 ((rd_T64 l0 x39_3).f0))) (fun _ hk => hk.2) (.int .i64 ((rd_T64 l0 x39_3).f1))) (fun _ hk => hk.1)⟩, ⟨by (with_reducible repeat (first | apply Kd.R_alloc | apply Kd.R_drewN | apply Kd.R_drew)); exact Kd.R_mono (Kd.R_far (p := ⟨gb114, 1, none⟩) (Kd.R_far (p := ⟨gb114, 0, none⟩) (Kd.R_mono HO_107001.out (fun k_ hk => (⟨hk, hk.2⟩ : _ ∧ k_ ≠ gb114))) (fun _ hk => hk.2) (.int .i64 ((rd_T64 l0 x39_3).f0))) (fun _ hk => hk.2) (.int .i64 ((rd_T64 l0 x39_3).f1))) (fun _ hk => hk.1.1)⟩, ⟨by (with_reducible repeat (first | apply Kd.R_alloc | apply Kd.R_drewN | apply Kd.R_drew)); exact Kd.R_mono (Kd.R_far (p := ⟨gb114, 1, none⟩) (Kd.R_far (p := ⟨gb114, 0, none⟩) (Kd.R_types HO_107002.out BK114.out (by decide)) (fun _ hk => hk.2) (.int .i64 ((rd_T64 l0 x39_3).f0))) (fun _ hk => hk.2) (.int .i64 ((rd_T64 l0 x39_3).f1))) (fun _ hk => hk.1)⟩, ⟨by (with_reducible repeat (first | refine blk_drewN ?_ _ | refine blk_drew ?_ | refine blk_alloc ?_ _)); refine blk_far ?_ NB101_114.out _; (with_reducible repeat (first | refine blk_drewN ?_ _ | refine blk_drew ?_ | refine blk_alloc ?_ _)); refine blk_far ?_ NB101_114.out _; (with_reducible repeat (first | refine blk_drewN ?_ _ | refine blk_drew ?_ | refine blk_alloc ?_ _)); exact BK101.out⟩, ⟨by (with_reducible repeat (first | refine blk_drewN ?_ _ | refine blk_drew ?_ | refine blk_alloc ?_ _)); refine blk_far ?_ NB102_114.out _; (with_reducible repeat (first | refine blk_drewN ?_ _ | refine blk_drew ?_ | refine blk_alloc ?_ _)); refine blk_far ?_ NB102_114.out _; (with_reducible repeat (first | refine blk_drewN ?_ _ | refine blk_drew ?_ | refine blk_alloc ?_ _)); exact BK102.out⟩, ⟨by (with_reducible repeat (first | refine blk_drewN ?_ _ | refine blk_drew ?_ | refine blk_alloc ?_ _)); refine blk_far ?_ NB106_114.out _; (with_reducible repeat (first | refine blk_drewN ?_ _ | refine blk_drew ?_ | refine blk_alloc ?_ _)); refine blk_far ?_ NB106_114.out _; (with_reducible repeat (first | refine blk_drewN ?_ _ | refine blk_drew ?_ | refine blk_alloc ?_ _)); exact BK106.out⟩, ⟨by repeat (first | (with_reducible first | exact HB.out | apply below_alloc | apply pw_below_drewN | apply below_drew1 | refine below_set ?_ GE101.out | refine below_set ?_ GE102.out | refine below_set ?_ GE106.out | refine below_set ?_ GE114.out) | exact HB.out)⟩⟩
                        · rw [if_neg c46] at H
                          have c46b0 : decide (((rd_T64 l0 x39_3).f1) ≤ a1_1) = false := decide_eq_false c46
                          clear c46
                          have H' := Aside0.mk H
                          clear H
                          have p113 : 0 ≤ (x39_3 : Int) := of_decide_eq_true (by first | (with_reducible assumption) | assumption)
                          have q113 : x39_3 < (l0.length : Int) := of_decide_eq_true (by first | (with_reducible assumption) | assumption)
                          obtain ⟨ad113, e113, hx113_0, hx113_1⟩ := at_T64 HR0.out x39_3 p113 q113
                          cases e113
                          try replace hx113_0 := (HB.out.cell (World.block_lt_of_cell? w _ hx113_0)).trans hx113_0
                          try replace hx113_1 := (HB.out.cell (World.block_lt_of_cell? w _ hx113_1)).trans hx113_1
                          replace p113 := eq_true p113
                          replace q113 := eq_true q113
                          go_wp2_with (first | ((with_reducible refine gate_dst (N := 11) rfl ?_); refine box_event ?hg (N := 11) ?hd (cs := #[.int .i64 0, .int .i64 0]) (t := 64) ?hr ?_; (case hd => rfl); (case hg => rfl); (case hr => first | (go_simp; done) | (go_simp; rfl)); intro gb114 hg w82 hbox hb; have n0_ := Aside0.mk (Kd.R_below (by (with_reducible repeat (first | apply Kd.R_alloc | apply Kd.R_drewN | apply Kd.R_drew)); exact HO_107000.out) hb); have n1_ := Aside0.mk (Kd.R_below (Kd.R_elderB (by (with_reducible repeat (first | apply Kd.R_alloc | apply Kd.R_drewN | apply Kd.R_drew)); exact HO_107001.out) gb114 (Nat.le_of_eq hg.symm)) hb); have n2_ := Aside0.mk (Kd.R_below (by (with_reducible repeat (first | apply Kd.R_alloc | apply Kd.R_drewN | apply Kd.R_drew)); exact HO_107002.out) hb); have n3_ := Aside0.mk (blk_below (g := gb101) (o := .cells #[.int .i64 a1_0, .int .i64 a1_1] 64 (0, 0)) (by (with_reducible repeat (first | refine blk_drewN ?_ _ | refine blk_drew ?_ | refine blk_alloc ?_ _)); exact BK101.out) hb); have n4_ := Aside0.mk (blk_below (g := gb102) (o := .cells #[.slice none 0 0, .slice none 0 0, .slice none 0 0] 71 (0, 0)) (by (with_reducible repeat (first | refine blk_drewN ?_ _ | refine blk_drew ?_ | refine blk_alloc ?_ _)); exact BK102.out) hb); have n5_ := Aside0.mk (blk_below (g := gb106) (o := .cells #[u107000, u107001, u107002] 71 (0, 0)) (by (with_reducible repeat (first | refine blk_drewN ?_ _ | refine blk_drew ?_ | refine blk_alloc ?_ _)); exact BK106.out) hb); have n6_ := Aside0.mk (below_step (by repeat (first | (with_reducible first | exact HB.out | apply below_alloc | apply pw_below_drewN | apply below_drew1 | refine below_set ?_ GE101.out | refine below_set ?_ GE102.out | refine below_set ?_ GE106.out) | exact HB.out)) hb); have n7_ := Aside0.mk (hbox); have n8_ := Aside0.mk ((by rw [hg]; exact (below_size (by repeat (first | (with_reducible first | exact HB.out | apply below_alloc | apply pw_below_drewN | apply below_drew1 | refine below_set ?_ GE101.out | refine below_set ?_ GE102.out | refine below_set ?_ GE106.out) | exact HB.out))) : w.heap.size ≤ gb114)); have n9_ := Aside0.mk ((by rw [hg]; exact (below_size (by repeat (first | (with_reducible first | exact HB.out | apply below_alloc | apply pw_below_drewN | apply below_drew1 | refine below_set ?_ GE101.out | refine below_set ?_ GE102.out | refine below_set ?_ GE106.out) | exact HB.out))) : w.heap.size ≤ gb114)); have n10_ := Aside0.mk ((by rw [hg]; exact Nat.ne_of_lt (blk_lt (g := gb101) (o := .cells #[.int .i64 a1_0, .int .i64 a1_1] 64 (0, 0)) (by (with_reducible repeat (first | refine blk_drewN ?_ _ | refine blk_drew ?_ | refine blk_alloc ?_ _)); exact BK101.out)) : gb101 ≠ gb114)); have n11_ := Aside0.mk ((by rw [hg]; exact Nat.ne_of_gt (blk_lt (g := gb101) (o := .cells #[.int .i64 a1_0, .int .i64 a1_1] 64 (0, 0)) (by (with_reducible repeat (first | refine blk_drewN ?_ _ | refine blk_drew ?_ | refine blk_alloc ?_ _)); exact BK101.out)) : gb114 ≠ gb101)); have n12_ := Aside0.mk ((by rw [hg]; exact Nat.ne_of_lt (blk_lt (g := gb102) (o := .cells #[.slice none 0 0, .slice none 0 0, .slice none 0 0] 71 (0, 0)) (by (with_reducible repeat (first | refine blk_drewN ?_ _ | refine blk_drew ?_ | refine blk_alloc ?_ _)); exact BK102.out)) : gb102 ≠ gb114)); have n13_ := Aside0.mk ((by rw [hg]; exact Nat.ne_of_gt (blk_lt (g := gb102) (o := .cells #[.slice none 0 0, .slice none 0 0, .slice none 0 0] 71 (0, 0)) (by (with_reducible repeat (first | refine blk_drewN ?_ _ | refine blk_drew ?_ | refine blk_alloc ?_ _)); exact BK102.out)) : gb114 ≠ gb102)); have n14_ := Aside0.mk ((by rw [hg]; exact Nat.ne_of_lt (blk_lt (g := gb106) (o := .cells #[u107000, u107001, u107002] 71 (0, 0)) (by (with_reducible repeat (first | refine blk_drewN ?_ _ | refine blk_drew ?_ | refine blk_alloc ?_ _)); exact BK106.out)) : gb106 ≠ gb114)); have n15_ := Aside0.mk ((by rw [hg]; exact Nat.ne_of_gt (blk_lt (g := gb106) (o := .cells #[u107000, u107001, u107002] 71 (0, 0)) (by (with_reducible repeat (first | refine blk_drewN ?_ _ | refine blk_drew ?_ | refine blk_alloc ?_ _)); exact BK106.out)) : gb114 ≠ gb106)); clear HO_107000; clear HO_107001; clear HO_107002; clear BK101; clear BK102; clear BK106; clear HB; have HO_107000 := n0_; have HO_107001 := n1_; have HO_107002 := n2_; have BK101 := n3_; have BK102 := n4_; have BK106 := n5_; have HB := n6_; have BK114 := n7_; have GW114 := n8_; have GE114 := n9_; have NB101_114 := n10_; have NB114_101 := n11_; have NB102_114 := n12_; have NB114_102 := n13_; have NB106_114 := n14_; have NB114_106 := n15_; clear n0_ n1_ n2_ n3_ n4_ n5_ n6_ n7_ n8_ n9_ n10_ n11_ n12_ n13_ n14_ n15_; clear hb hbox hg; have hnb83 := NB114_101.out; have hnc83 := NB101_114.out; have hnb84 := NB114_102.out; have hnc84 := NB102_114.out; have hnb85 := NB114_106.out; have hnc85 := NB106_114.out; have hcz86_0 : w82.cell? ⟨gb114, 0, none⟩ = some (.int .i64 0) := (blk_cell BK114.out 0).trans rfl; have hcz86_1 : w82.cell? ⟨gb114, 1, none⟩ = some (.int .i64 0) := (blk_cell BK114.out 1).trans rfl; have hfz86_0 := blk_frozen BK114.out 0; have hfz86_1 := blk_frozen BK114.out 1; have hnb87 := NB101_102.out; have hnc87 := NB102_101.out; have hnb88 := NB101_106.out; have hnc88 := NB106_101.out; have hcz89_0 : w82.cell? ⟨gb101, 0, none⟩ = some (.int .i64 a1_0) := (blk_cell BK101.out 0).trans rfl; have hcz89_1 : w82.cell? ⟨gb101, 1, none⟩ = some (.int .i64 a1_1) := (blk_cell BK101.out 1).trans rfl; have hfz89_0 := blk_frozen BK101.out 0; have hfz89_1 := blk_frozen BK101.out 1))
                          go_roundg k3
                          case measure => have := HJ3.out; have := HK2.out; have := HK3.out; omega
                          case rel => exact ⟨(x9_3), (wrap64 (x39_3 + 1)), (by first | rfl | (simp; done) | (simp [*]; done)), (by first | rfl | (simp; done) | (simp [*]; done)), H', ⟨by have := HJ3.out; have := HK2.out; have := HK3.out; omega⟩, ⟨by (with_reducible repeat (first | apply Kd.R_alloc | apply Kd.R_drewN | apply Kd.R_drew)); exact Kd.R_mono (Kd.R_far (p := ⟨gb114, 1, none⟩) (Kd.R_far (p := ⟨gb114, 0, none⟩) (Kd.R_types HO_107000.out BK114.out (by decide)) (fun _ hk => hk.2) (.int .i64 ((rd_T64 l0 x39_3).f0))) (fun _ hk => hk.2) (.int .i64 ((rd_T64 l0 x39_3).f1))) (fun _ hk => hk.1)⟩, ⟨by (with_reducible repeat (first | apply Kd.R_alloc | apply Kd.R_drewN | apply Kd.R_drew)); exact Kd.R_mono (Kd.R_far (p := ⟨gb114, 1, none⟩) (Kd.R_far (p := ⟨gb114, 0, none⟩) (Kd.R_mono HO_107001.out (fun k_ hk => (⟨hk, hk.2⟩ : _ ∧ k_ ≠ gb114))) (fun _ hk => hk.2) (.int .i64 ((rd_T64 l0 x39_3).f0))) (fun _ hk => hk.2) (.int .i64 ((rd_T64 l0 x39_3).f1))) (fun _ hk => hk.1.1)⟩, ⟨by (with_reducible repeat (first | apply Kd.R_alloc | apply Kd.R_drewN | apply Kd.R_drew)); exact Kd.R_mono (Kd.R_far (p := ⟨gb114, 1, none⟩) (Kd.R_far (p := ⟨gb114, 0, none⟩) (Kd.R_types HO_107002.out BK114.out (by decide)) (fun _ hk => hk.2) (.int .i64 ((rd_T64 l0 x39_3).f0))) (fun _ hk => hk.2) (.int .i64 ((rd_T64 l0 x39_3).f1))) (fun _ hk => hk.1)⟩, ⟨by (with_reducible repeat (first | refine blk_drewN ?_ _ | refine blk_drew ?_ | refine blk_alloc ?_ _)); refine blk_far ?_ NB101_114.out _; (with_reducible repeat (first | refine blk_drewN ?_ _ | refine blk_drew ?_ | refine blk_alloc ?_ _)); refine blk_far ?_ NB101_114.out _; (with_reducible repeat (first | refine blk_drewN ?_ _ | refine blk_drew ?_ | refine blk_alloc ?_ _)); exact BK101.out⟩, ⟨by (with_reducible repeat (first | refine blk_drewN ?_ _ | refine blk_drew ?_ | refine blk_alloc ?_ _)); refine blk_far ?_ NB102_114.out _; (with_reducible repeat (first | refine blk_drewN ?_ _ | refine blk_drew ?_ | refine blk_alloc ?_ _)); refine blk_far ?_ NB102_114.out _; (with_reducible repeat (first | refine blk_drewN ?_ _ | refine blk_drew ?_ | refine blk_alloc ?_ _)); exact BK102.out⟩, ⟨by (with_reducible repeat (first | refine blk_drewN ?_ _ | refine blk_drew ?_ | refine blk_alloc ?_ _)); refine blk_far ?_ NB106_114.out _; (with_reducible repeat (first | refine blk_drewN ?_ _ | refine blk_drew ?_ | refine blk_alloc ?_ _)); refine blk_far ?_ NB106_114.out _; (with_reducible repeat (first | refine blk_drewN ?_ _ | refine blk_drew ?_ | refine blk_alloc ?_ _)); exact BK106.out⟩, ⟨by repeat (first | (with_reducible first | exact HB.out | apply below_alloc | apply pw_below_drewN | apply below_drew1 | refine below_set ?_ GE101.out | refine below_set ?_ GE102.out | refine below_set ?_ GE106.out | refine below_set ?_ GE114.out) | exact HB.out)⟩⟩
                      · rw [if_neg c45] at H
                        have c45b0 : (((rd_T64 l0 x39_3).f0) == x8_2) = false := beq_eq_false_iff_ne.mpr c45
                        have c45b1 : (((rd_T64 l0 x39_3).f0) != x8_2) = true := bne_iff_ne.mpr c45
                        have H' := Aside0.mk H
                        clear H
                        have p113 : 0 ≤ (x39_3 : Int) := of_decide_eq_true (by first | (with_reducible assumption) | assumption)
                        have q113 : x39_3 < (l0.length : Int) := of_decide_eq_true (by first | (with_reducible assumption) | assumption)
                        obtain ⟨ad113, e113, hx113_0, hx113_1⟩ := at_T64 HR0.out x39_3 p113 q113
                        cases e113
                        try replace hx113_0 := (HB.out.cell (World.block_lt_of_cell? w _ hx113_0)).trans hx113_0
                        try replace hx113_1 := (HB.out.cell (World.block_lt_of_cell? w _ hx113_1)).trans hx113_1
                        replace p113 := eq_true p113
                        replace q113 := eq_true q113
                        go_wp2_with (first | ((with_reducible refine gate_dst (N := 11) rfl ?_); refine box_event ?hg (N := 11) ?hd (cs := #[.int .i64 0, .int .i64 0]) (t := 64) ?hr ?_; (case hd => rfl); (case hg => rfl); (case hr => first | (go_simp; done) | (go_simp; rfl)); intro gb114 hg w90 hbox hb; have n0_ := Aside0.mk (Kd.R_below (by (with_reducible repeat (first | apply Kd.R_alloc | apply Kd.R_drewN | apply Kd.R_drew)); exact HO_107000.out) hb); have n1_ := Aside0.mk (Kd.R_below (Kd.R_elderB (by (with_reducible repeat (first | apply Kd.R_alloc | apply Kd.R_drewN | apply Kd.R_drew)); exact HO_107001.out) gb114 (Nat.le_of_eq hg.symm)) hb); have n2_ := Aside0.mk (Kd.R_below (by (with_reducible repeat (first | apply Kd.R_alloc | apply Kd.R_drewN | apply Kd.R_drew)); exact HO_107002.out) hb); have n3_ := Aside0.mk (blk_below (g := gb101) (o := .cells #[.int .i64 a1_0, .int .i64 a1_1] 64 (0, 0)) (by (with_reducible repeat (first | refine blk_drewN ?_ _ | refine blk_drew ?_ | refine blk_alloc ?_ _)); exact BK101.out) hb); have n4_ := Aside0.mk (blk_below (g := gb102) (o := .cells #[.slice none 0 0, .slice none 0 0, .slice none 0 0] 71 (0, 0)) (by (with_reducible repeat (first | refine blk_drewN ?_ _ | refine blk_drew ?_ | refine blk_alloc ?_ _)); exact BK102.out) hb); have n5_ := Aside0.mk (blk_below (g := gb106) (o := .cells #[u107000, u107001, u107002] 71 (0, 0)) (by (with_reducible repeat (first | refine blk_drewN ?_ _ | refine blk_drew ?_ | refine blk_alloc ?_ _)); exact BK106.out) hb); have n6_ := Aside0.mk (below_step (by repeat (first | (with_reducible first | exact HB.out | apply below_alloc | apply pw_below_drewN | apply below_drew1 | refine below_set ?_ GE101.out | refine below_set ?_ GE102.out | refine below_set ?_ GE106.out) | exact HB.out)) hb); have n7_ := Aside0.mk (hbox); have n8_ := Aside0.mk ((by rw [hg]; exact (below_size (by repeat (first | (with_reducible first | exact HB.out | apply below_alloc | apply pw_below_drewN | apply below_drew1 | refine below_set ?_ GE101.out | refine below_set ?_ GE102.out | refine below_set ?_ GE106.out) | exact HB.out))) : w.heap.size ≤ gb114)); have n9_ := Aside0.mk ((by rw [hg]; exact (below_size (by repeat (first | (with_reducible first | exact HB.out | apply below_alloc | apply pw_below_drewN | apply below_drew1 | refine below_set ?_ GE101.out | refine below_set ?_ GE102.out | refine below_set ?_ GE106.out) | exact HB.out))) : w.heap.size ≤ gb114)); have n10_ := Aside0.mk ((by rw [hg]; exact Nat.ne_of_lt (blk_lt (g := gb101) (o := .cells #[.int .i64 a1_0, .int .i64 a1_1] 64 (0, 0)) (by (with_reducible repeat (first | refine blk_drewN ?_ _ | refine blk_drew ?_ | refine blk_alloc ?_ _)); exact BK101.out)) : gb101 ≠ gb114)); have n11_ := Aside0.mk ((by rw [hg]; exact Nat.ne_of_gt (blk_lt (g := gb101) (o := .cells #[.int .i64 a1_0, .int .i64 a1_1] 64 (0, 0)) (by (with_reducible repeat (first | refine blk_drewN ?_ _ | refine blk_drew ?_ | refine blk_alloc ?_ _)); exact BK101.out)) : gb114 ≠ gb101)); have n12_ := Aside0.mk ((by rw [hg]; exact Nat.ne_of_lt (blk_lt (g := gb102) (o := .cells #[.slice none 0 0, .slice none 0 0, .slice none 0 0] 71 (0, 0)) (by (with_reducible repeat (first | refine blk_drewN ?_ _ | refine blk_drew ?_ | refine blk_alloc ?_ _)); exact BK102.out)) : gb102 ≠ gb114)); have n13_ := Aside0.mk ((by rw [hg]; exact Nat.ne_of_gt (blk_lt (g := gb102) (o := .cells #[.slice none 0 0, .slice none 0 0, .slice none 0 0] 71 (0, 0)) (by (with_reducible repeat (first | refine blk_drewN ?_ _ | refine blk_drew ?_ | refine blk_alloc ?_ _)); exact BK102.out)) : gb114 ≠ gb102)); have n14_ := Aside0.mk ((by rw [hg]; exact Nat.ne_of_lt (blk_lt (g := gb106) (o := .cells #[u107000, u107001, u107002] 71 (0, 0)) (by (with_reducible repeat (first | refine blk_drewN ?_ _ | refine blk_drew ?_ | refine blk_alloc ?_ _)); exact BK106.out)) : gb106 ≠ gb114)); have n15_ := Aside0.mk ((by rw [hg]; exact Nat.ne_of_gt (blk_lt (g := gb106) (o := .cells #[u107000, u107001, u107002] 71 (0, 0)) (by (with_reducible repeat (first | refine blk_drewN ?_ _ | refine blk_drew ?_ | refine blk_alloc ?_ _)); exact BK106.out)) : gb114 ≠ gb106)); clear HO_107000; clear HO_107001; clear HO_107002; clear BK101; clear BK102; clear BK106; clear HB; have HO_107000 := n0_; have HO_107001 := n1_; have HO_107002 := n2_; have BK101 := n3_; have BK102 := n4_; have BK106 := n5_; have HB := n6_; have BK114 := n7_; have GW114 := n8_; have GE114 := n9_; have NB101_114 := n10_; have NB114_101 := n11_; have NB102_114 := n12_; have NB114_102 := n13_; have NB106_114 := n14_; have NB114_106 := n15_; clear n0_ n1_ n2_ n3_ n4_ n5_ n6_ n7_ n8_ n9_ n10_ n11_ n12_ n13_ n14_ n15_; clear hb hbox hg; have hnb91 := NB114_101.out; have hnc91 := NB101_114.out; have hnb92 := NB114_102.out; have hnc92 := NB102_114.out; have hnb93 := NB114_106.out; have hnc93 := NB106_114.out; have hcz94_0 : w90.cell? ⟨gb114, 0, none⟩ = some (.int .i64 0) := (blk_cell BK114.out 0).trans rfl; have hcz94_1 : w90.cell? ⟨gb114, 1, none⟩ = some (.int .i64 0) := (blk_cell BK114.out 1).trans rfl; have hfz94_0 := blk_frozen BK114.out 0; have hfz94_1 := blk_frozen BK114.out 1))
                        go_roundg k3
                        case measure => have := HJ3.out; have := HK2.out; have := HK3.out; omega
                        case rel => exact ⟨(x9_3), (wrap64 (x39_3 + 1)), (by first | rfl | (simp; done) | (simp [*]; done)), (by first | rfl | (simp; done) | (simp [*]; done)), H', ⟨by have := HJ3.out; have := HK2.out; have := HK3.out; omega⟩, ⟨by (with_reducible repeat (first | apply Kd.R_alloc | apply Kd.R_drewN | apply Kd.R_drew)); exact Kd.R_mono (Kd.R_far (p := ⟨gb114, 1, none⟩) (Kd.R_far (p := ⟨gb114, 0, none⟩) (Kd.R_types HO_107000.out BK114.out (by decide)) (fun _ hk => hk.2) (.int .i64 ((rd_T64 l0 x39_3).f0))) (fun _ hk => hk.2) (.int .i64 ((rd_T64 l0 x39_3).f1))) (fun _ hk => hk.1)⟩, ⟨by (with_reducible repeat (first | apply Kd.R_alloc | apply Kd.R_drewN | apply Kd.R_drew)); exact Kd.R_mono (Kd.R_far (p := ⟨gb114, 1, none⟩) (Kd.R_far (p := ⟨gb114, 0, none⟩) (Kd.R_mono HO_107001.out (fun k_ hk => (⟨hk, hk.2⟩ : _ ∧ k_ ≠ gb114))) (fun _ hk => hk.2) (.int .i64 ((rd_T64 l0 x39_3).f0))) (fun _ hk => hk.2) (.int .i64 ((rd_T64 l0 x39_3).f1))) (fun _ hk => hk.1.1)⟩, ⟨by (with_reducible repeat (first | apply Kd.R_alloc | apply Kd.R_drewN | apply Kd.R_drew)); exact Kd.R_mono (Kd.R_far (p := ⟨gb114, 1, none⟩) (Kd.R_far (p := ⟨gb114, 0, none⟩) (Kd.R_types HO_107002.out BK114.out (by decide)) (fun _ hk => hk.2) (.int .i64 ((rd_T64 l0 x39_3).f0))) (fun _ hk => hk.2) (.int .i64 ((rd_T64 l0 x39_3).f1))) (fun _ hk => hk.1)⟩, ⟨by (with_reducible repeat (first | refine blk_drewN ?_ _ | refine blk_drew ?_ | refine blk_alloc ?_ _)); refine blk_far ?_ NB101_114.out _; (with_reducible repeat (first | refine blk_drewN ?_ _ | refine blk_drew ?_ | refine blk_alloc ?_ _)); refine blk_far ?_ NB101_114.out _; (with_reducible repeat (first | refine blk_drewN ?_ _ | refine blk_drew ?_ | refine blk_alloc ?_ _)); exact BK101.out⟩, ⟨by (with_reducible repeat (first | refine blk_drewN ?_ _ | refine blk_drew ?_ | refine blk_alloc ?_ _)); refine blk_far ?_ NB102_114.out _; (with_reducible repeat (first | refine blk_drewN ?_ _ | refine blk_drew ?_ | refine blk_alloc ?_ _)); refine blk_far ?_ NB102_114.out _; (with_reducible repeat (first | refine blk_drewN ?_ _ | refine blk_drew ?_ | refine blk_alloc ?_ _)); exact BK102.out⟩, ⟨by (with_reducible repeat (first | refine blk_drewN ?_ _ | refine blk_drew ?_ | refine blk_alloc ?_ _)); refine blk_far ?_ NB106_114.out _; (with_reducible repeat (first | refine blk_drewN ?_ _ | refine blk_drew ?_ | refine blk_alloc ?_ _)); refine blk_far ?_ NB106_114.out _; (with_reducible repeat (first | refine blk_drewN ?_ _ | refine blk_drew ?_ | refine blk_alloc ?_ _)); exact BK106.out⟩, ⟨by repeat (first | (with_reducible first | exact HB.out | apply below_alloc | apply pw_below_drewN | apply below_drew1 | refine below_set ?_ GE101.out | refine below_set ?_ GE102.out | refine below_set ?_ GE106.out | refine below_set ?_ GE114.out) | exact HB.out)⟩⟩
                    · rw [if_neg c44] at H
                      exact absurd H (by simp)
                  · rw [if_neg c43] at H
                    exact absurd H (by simp)
                · rw [if_neg c42] at H
                  have c42b0 : decide (x39_3 < (l0.length : Int)) = false := decide_eq_false c42
                  clear c42
                  by_cases c95 : x9_3 > x8_2
                  · rw [if_pos c95] at H
                    have c95b0 : decide (x8_2 < x9_3) = true := decide_eq_true c95
                    clear c95
                    by_cases c96 : x107001_2.length < 8796093022208
                    · rw [if_pos c96] at H
                      have LMc96 := Aside0.mk c96
                      clear c96
                      obtain ⟨y115, hy115⟩ : ∃ y_ : List (S64), y_ = (x107001_2 ++ [(⟨x8_2, x9_3⟩ : S64)]) := ⟨_, rfl⟩
                      replace H : (if x107000_2.length < 17592186044416 then (impl_regionInside.l0 k3 l0 a2 x9_3 a1_0 a1_1 (x107000_2 ++ [x9_3]) y115 x107002_2) else (none)) = some (r1, r2, r3) := by first | (rw [hy115]; with_reducible exact H) | (have H2_ := (Option.bind_some _ _).symm.trans H; rw [hy115]; with_reducible exact H2_) | (have H2_ := (Option.bind_some _ _).symm.trans H; with_reducible exact H2_) | with_reducible exact H | (rw [hy115]; exact H) | exact H
                      have Ny115 := Aside0.mk hy115
                      clear hy115
                      by_cases c97 : x107000_2.length < 17592186044416
                      · rw [if_pos c97] at H
                        have LMc97 := Aside0.mk c97
                        clear c97
                        obtain ⟨y118, hy118⟩ : ∃ y_ : List Int, y_ = (x107000_2 ++ [x9_3]) := ⟨_, rfl⟩
                        replace H : (impl_regionInside.l0 k3 l0 a2 x9_3 a1_0 a1_1 y118 y115 x107002_2) = some (r1, r2, r3) := by first | (rw [hy118]; with_reducible exact H) | (have H2_ := (Option.bind_some _ _).symm.trans H; rw [hy118]; with_reducible exact H2_) | (have H2_ := (Option.bind_some _ _).symm.trans H; with_reducible exact H2_) | with_reducible exact H | (rw [hy118]; exact H) | exact H
                        have Ny118 := Aside0.mk hy118
                        clear hy118
                        have H' := Aside0.mk H
                        clear H
                        have hnb98 := NB106_101.out
                        have hnc98 := NB101_106.out
                        have hnb99 := NB106_102.out
                        have hnc99 := NB102_106.out
                        have hcz100_0 : wr.cell? ⟨gb106, 0, none⟩ = some (u107000) := (blk_cell BK106.out 0).trans rfl
                        have hcz100_1 : wr.cell? ⟨gb106, 1, none⟩ = some (u107001) := (blk_cell BK106.out 1).trans rfl
                        have hcz100_2 : wr.cell? ⟨gb106, 2, none⟩ = some (u107002) := (blk_cell BK106.out 2).trans rfl
                        have hfz100_0 := blk_frozen BK106.out 0
                        have hfz100_1 := blk_frozen BK106.out 1
                        have hfz100_2 := blk_frozen BK106.out 2
                        go_wp2_with (first | ((with_reducible refine gate_builtin (b := .append) (xs := #[.tmp 76, .tmp 80]) rfl ?_); at_builtin; refine Kd.R_append k64 (w0 := w) w.heap.size rfl (.tmp 76) (.tmp 80) 27 64 (.agg #[(.int .i64 0), (.int .i64 0)]) 16 rfl Try.underlying27 info64 rfl (by decide) (by omega) u107001 x107001_2 (⟨x8_2, x9_3⟩ : S64) [.int .i64 x8_2, .int .i64 x9_3] (fun k_ => k_ ≠ gb101) (fun _ => False) rfl rfl ?aP (fun _ hk => hk.elim) ?aF ?aO ?aB ?aS ?aL ?_; (case aP => exact k64_mkM _ _ _ (⟨x8_2, x9_3⟩ : S64)); (case aB => exact (by repeat (first | (with_reducible first | exact HB.out | apply below_alloc | apply pw_below_drewN | apply below_drew1 | refine below_set ?_ GE101.out | refine below_set ?_ GE102.out | refine below_set ?_ GE106.out) | exact HB.out))); (case aF => exact (fun k_ hk => Kd.freshB (g := gb101) (o := .cells #[.int .i64 a1_0, .int .i64 a1_1] 64 (0, 0)) (by (with_reducible repeat (first | refine blk_drewN ?_ _ | refine blk_drew ?_ | refine blk_alloc ?_ _)); exact BK101.out) k_ hk)); (case aO => exact (by (with_reducible repeat (first | apply Kd.R_alloc | apply Kd.R_drewN | apply Kd.R_drew)); exact HO_107001.out)); (case aS => exact (below_size (by repeat (first | (with_reducible first | exact HB.out | apply below_alloc | apply pw_below_drewN | apply below_drew1 | refine below_set ?_ GE101.out | refine below_set ?_ GE102.out | refine below_set ?_ GE106.out) | exact HB.out)))); (case aL => have := LMc96.out; omega); intro v116 w101 ho hb hg hat; rw [← Ny115.out] at ho; have n0_ := Aside0.mk (Kd.R_over' (by (with_reducible repeat (first | apply Kd.R_alloc | apply Kd.R_drewN | apply Kd.R_drew)); exact HO_107000.out) (Kd.R_typed (by (with_reducible repeat (first | apply Kd.R_alloc | apply Kd.R_drewN | apply Kd.R_drew)); exact HO_107001.out)) (by decide) hg); have n1_ := Aside0.mk (Kd.R_over' (by (with_reducible repeat (first | apply Kd.R_alloc | apply Kd.R_drewN | apply Kd.R_drew)); exact HO_107002.out) (Kd.R_typed (by (with_reducible repeat (first | apply Kd.R_alloc | apply Kd.R_drewN | apply Kd.R_drew)); exact HO_107001.out)) (by decide) hg); have n2_ := Aside0.mk (blk_grown (g := gb101) (o := .cells #[.int .i64 a1_0, .int .i64 a1_1] 64 (0, 0)) (by (with_reducible repeat (first | refine blk_drewN ?_ _ | refine blk_drew ?_ | refine blk_alloc ?_ _)); exact BK101.out) hg (Kd.R_away HO_107001.out (fun _ hk => hk))); have n3_ := Aside0.mk (blk_grown (g := gb102) (o := .cells #[.slice none 0 0, .slice none 0 0, .slice none 0 0] 71 (0, 0)) (by (with_reducible repeat (first | refine blk_drewN ?_ _ | refine blk_drew ?_ | refine blk_alloc ?_ _)); exact BK102.out) hg (Kd.R_ne HO_107001.out BK102.out (by decide))); have n4_ := Aside0.mk (blk_grown (g := gb106) (o := .cells #[u107000, u107001, u107002] 71 (0, 0)) (by (with_reducible repeat (first | refine blk_drewN ?_ _ | refine blk_drew ?_ | refine blk_alloc ?_ _)); exact BK106.out) hg (Kd.R_ne HO_107001.out BK106.out (by decide))); have n5_ := Aside0.mk (hb); have n6_ := Aside0.mk (ho); clear HO_107000; clear HO_107002; clear BK101; clear BK102; clear BK106; clear HB; clear HO_107001; have HO_107000 := n0_; have HO_107002 := n1_; have BK101 := n2_; have BK102 := n3_; have BK106 := n4_; have HB := n5_; have HO117 := n6_; clear n0_ n1_ n2_ n3_ n4_ n5_ n6_; clear ho hb hg hat; obtain ⟨Ao102, co102, eo102⟩ := Kd.R_slice HO117.out; subst eo102; have hcz103_0 : w101.cell? ⟨gb106, 0, none⟩ = some (u107000) := (blk_cell BK106.out 0).trans rfl; have hcz103_1 : w101.cell? ⟨gb106, 1, none⟩ = some (u107001) := (blk_cell BK106.out 1).trans rfl; have hcz103_2 : w101.cell? ⟨gb106, 2, none⟩ = some (u107002) := (blk_cell BK106.out 2).trans rfl; have hfz103_0 := blk_frozen BK106.out 0; have hfz103_1 := blk_frozen BK106.out 1; have hfz103_2 := blk_frozen BK106.out 2) | ((with_reducible refine gate_builtin (b := .append) (xs := #[.tmp 93, .tmp 95]) rfl ?_); at_builtin; refine Kd.R_append (Kd.int .i64) (w0 := w) w.heap.size rfl (.tmp 93) (.tmp 95) 24 3 (.int .i64 0) 8 rfl Try.underlying24 info3 rfl (by decide) (by omega) u107000 x107000_2 x9_3 [.int .i64 x9_3] (fun k_ => some k_ ≠ (u107002 : Value).ownBlock) (fun _ => False) rfl (by first | (go_simp; done) | (go_simp; rfl)) ?aP (fun _ hk => hk.elim) ?aF ?aO ?aB ?aS ?aL ?_; (case aP => exact rfl); (case aB => exact (by repeat (first | (with_reducible first | exact HB.out | apply below_alloc | apply pw_below_drewN | apply below_drew1 | refine below_set ?_ GE101.out | refine below_set ?_ GE102.out | refine below_set ?_ GE106.out) | exact HB.out))); (case aF => exact (fun k_ hk => Kd.fresh' (Kd.R_lt (by (with_reducible repeat (first | apply Kd.R_alloc | apply Kd.R_drewN | apply Kd.R_drew)); exact (Kd.R_mono (Kd.R_far (p := ⟨gb106, 1, none⟩) (Kd.R_types HO_107002.out BK106.out (by decide)) (fun _ hk => hk.2) (.slice Ao102 y115.length co102)) (fun _ h_ => h_.1)))) k_ hk)); (case aO => exact (by (with_reducible repeat (first | apply Kd.R_alloc | apply Kd.R_drewN | apply Kd.R_drew)); exact Kd.R_mono (Kd.R_far (p := ⟨gb106, 1, none⟩) (Kd.R_types HO_107000.out BK106.out (by decide)) (fun _ hk => hk.2) (.slice Ao102 y115.length co102)) (fun _ hk => hk.1))); (case aS => exact (below_size (by repeat (first | (with_reducible first | exact HB.out | apply below_alloc | apply pw_below_drewN | apply below_drew1 | refine below_set ?_ GE101.out | refine below_set ?_ GE102.out | refine below_set ?_ GE106.out) | exact HB.out)))); (case aL => have := LMc97.out; omega); intro v119 w104 ho hb hg hat; rw [← Ny118.out] at ho; have n0_ := Aside0.mk (Kd.R_after (ok := (fun _ => True)) (by (with_reducible repeat (first | apply Kd.R_alloc | apply Kd.R_drewN | apply Kd.R_drew)); exact Kd.R_mono (Kd.R_far (p := ⟨gb106, 1, none⟩) (Kd.R_types HO_107002.out BK106.out (by decide)) (fun _ hk => hk.2) (.slice Ao102 y115.length co102)) (fun _ hk => ⟨trivial, hk.1⟩)) hg hat); have n1_ := Aside0.mk (blk_grown (g := gb101) (o := .cells #[.int .i64 a1_0, .int .i64 a1_1] 64 (0, 0)) (by (with_reducible repeat (first | refine blk_drewN ?_ _ | refine blk_drew ?_ | refine blk_alloc ?_ _)); refine blk_far ?_ NB101_106.out _; (with_reducible repeat (first | refine blk_drewN ?_ _ | refine blk_drew ?_ | refine blk_alloc ?_ _)); exact BK101.out) hg (Kd.R_ne HO_107000.out BK101.out (by decide))); have n2_ := Aside0.mk (blk_grown (g := gb102) (o := .cells #[.slice none 0 0, .slice none 0 0, .slice none 0 0] 71 (0, 0)) (by (with_reducible repeat (first | refine blk_drewN ?_ _ | refine blk_drew ?_ | refine blk_alloc ?_ _)); refine blk_far ?_ NB102_106.out _; (with_reducible repeat (first | refine blk_drewN ?_ _ | refine blk_drew ?_ | refine blk_alloc ?_ _)); exact BK102.out) hg (Kd.R_ne HO_107000.out BK102.out (by decide))); have n3_ := Aside0.mk (blk_grown (g := gb106) (o := .cells #[u107000, .slice Ao102 y115.length co102, u107002] 71 (0, 0)) (by (with_reducible repeat (first | refine blk_drewN ?_ _ | refine blk_drew ?_ | refine blk_alloc ?_ _)); refine blk_put (cs := #[u107000, u107001, u107002]) ?_ 1 _ rfl; (with_reducible repeat (first | refine blk_drewN ?_ _ | refine blk_drew ?_ | refine blk_alloc ?_ _)); exact BK106.out) hg (Kd.R_ne HO_107000.out BK106.out (by decide))); have n4_ := Aside0.mk (Kd.R_over' (by (with_reducible repeat (first | apply Kd.R_alloc | apply Kd.R_drewN | apply Kd.R_drew)); exact (Kd.R_mono (Kd.R_far (p := ⟨gb106, 1, none⟩) (Kd.R_types HO117.out BK106.out (by decide)) (fun _ hk => hk.2) (.slice Ao102 y115.length co102)) (fun _ h_ => h_.1))) (Kd.R_typed (by (with_reducible repeat (first | apply Kd.R_alloc | apply Kd.R_drewN | apply Kd.R_drew)); exact (Kd.R_mono (Kd.R_far (p := ⟨gb106, 1, none⟩) (Kd.R_types HO_107000.out BK106.out (by decide)) (fun _ hk => hk.2) (.slice Ao102 y115.length co102)) (fun _ h_ => h_.1)))) (by decide) hg); have n5_ := Aside0.mk (hb); have n6_ := Aside0.mk (ho); clear HO_107002; clear BK101; clear BK102; clear BK106; clear HO117; clear HB; clear HO_107000; have HO_107002 := n0_; have BK101 := n1_; have BK102 := n2_; have BK106 := n3_; have HO117 := n4_; have HB := n5_; have HO120 := n6_; clear n0_ n1_ n2_ n3_ n4_ n5_ n6_; clear ho hb hg hat; obtain ⟨Ao105, co105, eo105⟩ := Kd.R_slice HO120.out; subst eo105; have hcz106_0 : w104.cell? ⟨gb106, 0, none⟩ = some (u107000) := (blk_cell BK106.out 0).trans rfl; have hcz106_1 : w104.cell? ⟨gb106, 1, none⟩ = some (.slice Ao102 y115.length co102) := (blk_cell BK106.out 1).trans rfl; have hcz106_2 : w104.cell? ⟨gb106, 2, none⟩ = some (u107002) := (blk_cell BK106.out 2).trans rfl; have hfz106_0 := blk_frozen BK106.out 0; have hfz106_1 := blk_frozen BK106.out 1; have hfz106_2 := blk_frozen BK106.out 2))
                        go_roundg k3
                        case measure => have := HJ3.out; have := HK2.out; have := HK3.out; omega
                        case rel => exact ⟨(x9_3), (y118), (y115), (x107002_2), (.slice Ao105 y118.length co105), (.slice Ao102 y115.length co102), (u107002), (by first | rfl | (simp; done) | (simp [*]; done)), H', ⟨by have := HJ3.out; have := HK2.out; have := HK3.out; omega⟩, ⟨by (with_reducible repeat (first | apply Kd.R_alloc | apply Kd.R_drewN | apply Kd.R_drew)); exact Kd.R_mono (Kd.R_far (p := ⟨gb106, 0, none⟩) (Kd.R_types HO120.out BK106.out (by decide)) (fun _ hk => hk.2) (.slice Ao105 y118.length co105)) (fun _ hk => hk.1)⟩, ⟨by (with_reducible repeat (first | apply Kd.R_alloc | apply Kd.R_drewN | apply Kd.R_drew)); exact Kd.R_mono (Kd.R_far (p := ⟨gb106, 0, none⟩) (Kd.R_types HO117.out BK106.out (by decide)) (fun _ hk => hk.2) (.slice Ao105 y118.length co105)) (fun _ hk => hk.1)⟩, ⟨by (with_reducible repeat (first | apply Kd.R_alloc | apply Kd.R_drewN | apply Kd.R_drew)); exact Kd.R_mono (Kd.R_far (p := ⟨gb106, 0, none⟩) (Kd.R_types HO_107002.out BK106.out (by decide)) (fun _ hk => hk.2) (.slice Ao105 y118.length co105)) (fun _ hk => hk.1.2)⟩, ⟨by (with_reducible repeat (first | refine blk_drewN ?_ _ | refine blk_drew ?_ | refine blk_alloc ?_ _)); refine blk_far ?_ NB101_106.out _; (with_reducible repeat (first | refine blk_drewN ?_ _ | refine blk_drew ?_ | refine blk_alloc ?_ _)); exact BK101.out⟩, ⟨by (with_reducible repeat (first | refine blk_drewN ?_ _ | refine blk_drew ?_ | refine blk_alloc ?_ _)); refine blk_far ?_ NB102_106.out _; (with_reducible repeat (first | refine blk_drewN ?_ _ | refine blk_drew ?_ | refine blk_alloc ?_ _)); exact BK102.out⟩, ⟨by (with_reducible repeat (first | refine blk_drewN ?_ _ | refine blk_drew ?_ | refine blk_alloc ?_ _)); refine blk_put (cs := #[u107000, .slice Ao102 y115.length co102, u107002]) ?_ 0 _ rfl; (with_reducible repeat (first | refine blk_drewN ?_ _ | refine blk_drew ?_ | refine blk_alloc ?_ _)); exact BK106.out⟩, ⟨by repeat (first | (with_reducible first | exact HB.out | apply below_alloc | apply pw_below_drewN | apply below_drew1 | refine below_set ?_ GE101.out | refine below_set ?_ GE102.out | refine below_set ?_ GE106.out) | exact HB.out)⟩⟩
                      · rw [if_neg c97] at H
                        exact absurd H (by simp)
                    · rw [if_neg c96] at H
                      exact absurd H (by simp)
                  · rw [if_neg c95] at H
                    have c95b0 : decide (x8_2 < x9_3) = false := decide_eq_false c95
                    clear c95
                    by_cases c107 : x107002_2.length < 17592186044416
                    · rw [if_pos c107] at H
                      have LMc107 := Aside0.mk c107
                      clear c107
                      obtain ⟨y121, hy121⟩ : ∃ y_ : List Int, y_ = (x107002_2 ++ [x8_2]) := ⟨_, rfl⟩
                      replace H : (if x107000_2.length < 17592186044416 then (impl_regionInside.l0 k3 l0 a2 (wrap64 (x8_2 + 1)) a1_0 a1_1 (x107000_2 ++ [wrap64 (x8_2 + 1)]) x107001_2 y121) else (none)) = some (r1, r2, r3) := by first | (rw [hy121]; with_reducible exact H) | (have H2_ := (Option.bind_some _ _).symm.trans H; rw [hy121]; with_reducible exact H2_) | (have H2_ := (Option.bind_some _ _).symm.trans H; with_reducible exact H2_) | with_reducible exact H | (rw [hy121]; exact H) | exact H
                      have Ny121 := Aside0.mk hy121
                      clear hy121
                      by_cases c108 : x107000_2.length < 17592186044416
                      · rw [if_pos c108] at H
                        have LMc108 := Aside0.mk c108
                        clear c108
                        obtain ⟨y124, hy124⟩ : ∃ y_ : List Int, y_ = (x107000_2 ++ [wrap64 (x8_2 + 1)]) := ⟨_, rfl⟩
                        replace H : (impl_regionInside.l0 k3 l0 a2 (wrap64 (x8_2 + 1)) a1_0 a1_1 y124 x107001_2 y121) = some (r1, r2, r3) := by first | (rw [hy124]; with_reducible exact H) | (have H2_ := (Option.bind_some _ _).symm.trans H; rw [hy124]; with_reducible exact H2_) | (have H2_ := (Option.bind_some _ _).symm.trans H; with_reducible exact H2_) | with_reducible exact H | (rw [hy124]; exact H) | exact H
                        have Ny124 := Aside0.mk hy124
                        clear hy124
                        have H' := Aside0.mk H
                        clear H
                        have hnb109 := NB106_101.out
                        have hnc109 := NB101_106.out
                        have hnb110 := NB106_102.out
                        have hnc110 := NB102_106.out
                        have hcz111_0 : wr.cell? ⟨gb106, 0, none⟩ = some (u107000) := (blk_cell BK106.out 0).trans rfl
                        have hcz111_1 : wr.cell? ⟨gb106, 1, none⟩ = some (u107001) := (blk_cell BK106.out 1).trans rfl
                        have hcz111_2 : wr.cell? ⟨gb106, 2, none⟩ = some (u107002) := (blk_cell BK106.out 2).trans rfl
                        have hfz111_0 := blk_frozen BK106.out 0
                        have hfz111_1 := blk_frozen BK106.out 1
                        have hfz111_2 := blk_frozen BK106.out 2
                        go_wp2_with (first | ((with_reducible refine gate_builtin (b := .append) (xs := #[.tmp 84, .tmp 86]) rfl ?_); at_builtin; refine Kd.R_append (Kd.int .i64) (w0 := w) w.heap.size rfl (.tmp 84) (.tmp 86) 24 3 (.int .i64 0) 8 rfl Try.underlying24 info3 rfl (by decide) (by omega) u107002 x107002_2 x8_2 [.int .i64 x8_2] (fun k_ => some k_ ≠ (u107000 : Value).ownBlock) (fun _ => False) rfl rfl ?aP (fun _ hk => hk.elim) ?aF ?aO ?aB ?aS ?aL ?_; (case aP => exact rfl); (case aB => exact (by repeat (first | (with_reducible first | exact HB.out | apply below_alloc | apply pw_below_drewN | apply below_drew1 | refine below_set ?_ GE101.out | refine below_set ?_ GE102.out | refine below_set ?_ GE106.out) | exact HB.out))); (case aF => exact (fun k_ hk => Kd.fresh' (Kd.R_lt (by (with_reducible repeat (first | apply Kd.R_alloc | apply Kd.R_drewN | apply Kd.R_drew)); exact HO_107000.out)) k_ hk)); (case aO => exact (by (with_reducible repeat (first | apply Kd.R_alloc | apply Kd.R_drewN | apply Kd.R_drew)); exact HO_107002.out)); (case aS => exact (below_size (by repeat (first | (with_reducible first | exact HB.out | apply below_alloc | apply pw_below_drewN | apply below_drew1 | refine below_set ?_ GE101.out | refine below_set ?_ GE102.out | refine below_set ?_ GE106.out) | exact HB.out)))); (case aL => have := LMc107.out; omega); intro v122 w112 ho hb hg hat; rw [← Ny121.out] at ho; have n0_ := Aside0.mk (Kd.R_after (ok := (fun _ => True)) (by (with_reducible repeat (first | apply Kd.R_alloc | apply Kd.R_drewN | apply Kd.R_drew)); exact Kd.R_mono HO_107000.out (fun _ hk => ⟨trivial, hk⟩)) hg hat); have n1_ := Aside0.mk (Kd.R_over' (by (with_reducible repeat (first | apply Kd.R_alloc | apply Kd.R_drewN | apply Kd.R_drew)); exact HO_107001.out) (Kd.R_typed (by (with_reducible repeat (first | apply Kd.R_alloc | apply Kd.R_drewN | apply Kd.R_drew)); exact HO_107002.out)) (by decide) hg); have n2_ := Aside0.mk (blk_grown (g := gb101) (o := .cells #[.int .i64 a1_0, .int .i64 a1_1] 64 (0, 0)) (by (with_reducible repeat (first | refine blk_drewN ?_ _ | refine blk_drew ?_ | refine blk_alloc ?_ _)); exact BK101.out) hg (Kd.R_ne HO_107002.out BK101.out (by decide))); have n3_ := Aside0.mk (blk_grown (g := gb102) (o := .cells #[.slice none 0 0, .slice none 0 0, .slice none 0 0] 71 (0, 0)) (by (with_reducible repeat (first | refine blk_drewN ?_ _ | refine blk_drew ?_ | refine blk_alloc ?_ _)); exact BK102.out) hg (Kd.R_ne HO_107002.out BK102.out (by decide))); have n4_ := Aside0.mk (blk_grown (g := gb106) (o := .cells #[u107000, u107001, u107002] 71 (0, 0)) (by (with_reducible repeat (first | refine blk_drewN ?_ _ | refine blk_drew ?_ | refine blk_alloc ?_ _)); exact BK106.out) hg (Kd.R_ne HO_107002.out BK106.out (by decide))); have n5_ := Aside0.mk (hb); have n6_ := Aside0.mk (ho); clear HO_107000; clear HO_107001; clear BK101; clear BK102; clear BK106; clear HB; clear HO_107002; have HO_107000 := n0_; have HO_107001 := n1_; have BK101 := n2_; have BK102 := n3_; have BK106 := n4_; have HB := n5_; have HO123 := n6_; clear n0_ n1_ n2_ n3_ n4_ n5_ n6_; clear ho hb hg hat; obtain ⟨Ao113, co113, eo113⟩ := Kd.R_slice HO123.out; subst eo113; have hcz114_0 : w112.cell? ⟨gb106, 0, none⟩ = some (u107000) := (blk_cell BK106.out 0).trans rfl; have hcz114_1 : w112.cell? ⟨gb106, 1, none⟩ = some (u107001) := (blk_cell BK106.out 1).trans rfl; have hcz114_2 : w112.cell? ⟨gb106, 2, none⟩ = some (u107002) := (blk_cell BK106.out 2).trans rfl; have hfz114_0 := blk_frozen BK106.out 0; have hfz114_1 := blk_frozen BK106.out 1; have hfz114_2 := blk_frozen BK106.out 2) | ((with_reducible refine gate_builtin (b := .append) (xs := #[.tmp 93, .tmp 95]) rfl ?_); at_builtin; refine Kd.R_append (Kd.int .i64) (w0 := w) w.heap.size rfl (.tmp 93) (.tmp 95) 24 3 (.int .i64 0) 8 rfl Try.underlying24 info3 rfl (by decide) (by omega) u107000 x107000_2 (wrap64 (x8_2 + 1)) [.int .i64 (wrap64 (x8_2 + 1))] (fun k_ => some k_ ≠ (.slice Ao113 y121.length co113 : Value).ownBlock) (fun _ => False) rfl (by first | (go_simp; done) | (go_simp; rfl)) ?aP (fun _ hk => hk.elim) ?aF ?aO ?aB ?aS ?aL ?_; (case aP => exact rfl); (case aB => exact (by repeat (first | (with_reducible first | exact HB.out | apply below_alloc | apply pw_below_drewN | apply below_drew1 | refine below_set ?_ GE101.out | refine below_set ?_ GE102.out | refine below_set ?_ GE106.out) | exact HB.out))); (case aF => exact (fun k_ hk => Kd.fresh' (Kd.R_lt (by (with_reducible repeat (first | apply Kd.R_alloc | apply Kd.R_drewN | apply Kd.R_drew)); exact (Kd.R_mono (Kd.R_far (p := ⟨gb106, 2, none⟩) (Kd.R_types HO123.out BK106.out (by decide)) (fun _ hk => hk.2) (.slice Ao113 y121.length co113)) (fun _ h_ => h_.1)))) k_ hk)); (case aO => exact (by (with_reducible repeat (first | apply Kd.R_alloc | apply Kd.R_drewN | apply Kd.R_drew)); exact Kd.R_mono (Kd.R_far (p := ⟨gb106, 2, none⟩) (Kd.R_types HO_107000.out BK106.out (by decide)) (fun _ hk => hk.2) (.slice Ao113 y121.length co113)) (fun _ hk => hk.1.2))); (case aS => exact (below_size (by repeat (first | (with_reducible first | exact HB.out | apply below_alloc | apply pw_below_drewN | apply below_drew1 | refine below_set ?_ GE101.out | refine below_set ?_ GE102.out | refine below_set ?_ GE106.out) | exact HB.out)))); (case aL => have := LMc108.out; omega); intro v125 w115 ho hb hg hat; rw [← Ny124.out] at ho; have n0_ := Aside0.mk (Kd.R_over' (by (with_reducible repeat (first | apply Kd.R_alloc | apply Kd.R_drewN | apply Kd.R_drew)); exact (Kd.R_mono (Kd.R_far (p := ⟨gb106, 2, none⟩) (Kd.R_types HO_107001.out BK106.out (by decide)) (fun _ hk => hk.2) (.slice Ao113 y121.length co113)) (fun _ h_ => h_.1))) (Kd.R_typed (by (with_reducible repeat (first | apply Kd.R_alloc | apply Kd.R_drewN | apply Kd.R_drew)); exact (Kd.R_mono (Kd.R_far (p := ⟨gb106, 2, none⟩) (Kd.R_types HO_107000.out BK106.out (by decide)) (fun _ hk => hk.2) (.slice Ao113 y121.length co113)) (fun _ h_ => h_.1)))) (by decide) hg); have n1_ := Aside0.mk (blk_grown (g := gb101) (o := .cells #[.int .i64 a1_0, .int .i64 a1_1] 64 (0, 0)) (by (with_reducible repeat (first | refine blk_drewN ?_ _ | refine blk_drew ?_ | refine blk_alloc ?_ _)); refine blk_far ?_ NB101_106.out _; (with_reducible repeat (first | refine blk_drewN ?_ _ | refine blk_drew ?_ | refine blk_alloc ?_ _)); exact BK101.out) hg (Kd.R_ne HO_107000.out BK101.out (by decide))); have n2_ := Aside0.mk (blk_grown (g := gb102) (o := .cells #[.slice none 0 0, .slice none 0 0, .slice none 0 0] 71 (0, 0)) (by (with_reducible repeat (first | refine blk_drewN ?_ _ | refine blk_drew ?_ | refine blk_alloc ?_ _)); refine blk_far ?_ NB102_106.out _; (with_reducible repeat (first | refine blk_drewN ?_ _ | refine blk_drew ?_ | refine blk_alloc ?_ _)); exact BK102.out) hg (Kd.R_ne HO_107000.out BK102.out (by decide))); have n3_ := Aside0.mk (blk_grown (g := gb106) (o := .cells #[u107000, u107001, .slice Ao113 y121.length co113] 71 (0, 0)) (by (with_reducible repeat (first | refine blk_drewN ?_ _ | refine blk_drew ?_ | refine blk_alloc ?_ _)); refine blk_put (cs := #[u107000, u107001, u107002]) ?_ 2 _ rfl; (with_reducible repeat (first | refine blk_drewN ?_ _ | refine blk_drew ?_ | refine blk_alloc ?_ _)); exact BK106.out) hg (Kd.R_ne HO_107000.out BK106.out (by decide))); have n4_ := Aside0.mk (Kd.R_after (ok := (fun _ => True)) (by (with_reducible repeat (first | apply Kd.R_alloc | apply Kd.R_drewN | apply Kd.R_drew)); exact Kd.R_mono (Kd.R_far (p := ⟨gb106, 2, none⟩) (Kd.R_types HO123.out BK106.out (by decide)) (fun _ hk => hk.2) (.slice Ao113 y121.length co113)) (fun _ hk => ⟨trivial, hk.1⟩)) hg hat); have n5_ := Aside0.mk (hb); have n6_ := Aside0.mk (ho); clear HO_107001; clear BK101; clear BK102; clear BK106; clear HO123; clear HB; clear HO_107000; have HO_107001 := n0_; have BK101 := n1_; have BK102 := n2_; have BK106 := n3_; have HO123 := n4_; have HB := n5_; have HO126 := n6_; clear n0_ n1_ n2_ n3_ n4_ n5_ n6_; clear ho hb hg hat; obtain ⟨Ao116, co116, eo116⟩ := Kd.R_slice HO126.out; subst eo116; have hcz117_0 : w115.cell? ⟨gb106, 0, none⟩ = some (u107000) := (blk_cell BK106.out 0).trans rfl; have hcz117_1 : w115.cell? ⟨gb106, 1, none⟩ = some (u107001) := (blk_cell BK106.out 1).trans rfl; have hcz117_2 : w115.cell? ⟨gb106, 2, none⟩ = some (.slice Ao113 y121.length co113) := (blk_cell BK106.out 2).trans rfl; have hfz117_0 := blk_frozen BK106.out 0; have hfz117_1 := blk_frozen BK106.out 1; have hfz117_2 := blk_frozen BK106.out 2))
                        go_roundg k3
                        case measure => have := HJ3.out; have := HK2.out; have := HK3.out; omega
                        case rel => exact ⟨(wrap64 (x8_2 + 1)), (y124), (x107001_2), (y121), (.slice Ao116 y124.length co116), (u107001), (.slice Ao113 y121.length co113), (by first | rfl | (simp; done) | (simp [*]; done)), H', ⟨by have := HJ3.out; have := HK2.out; have := HK3.out; omega⟩, ⟨by (with_reducible repeat (first | apply Kd.R_alloc | apply Kd.R_drewN | apply Kd.R_drew)); exact Kd.R_mono (Kd.R_far (p := ⟨gb106, 0, none⟩) (Kd.R_types HO126.out BK106.out (by decide)) (fun _ hk => hk.2) (.slice Ao116 y124.length co116)) (fun _ hk => hk.1)⟩, ⟨by (with_reducible repeat (first | apply Kd.R_alloc | apply Kd.R_drewN | apply Kd.R_drew)); exact Kd.R_mono (Kd.R_far (p := ⟨gb106, 0, none⟩) (Kd.R_types HO_107001.out BK106.out (by decide)) (fun _ hk => hk.2) (.slice Ao116 y124.length co116)) (fun _ hk => hk.1)⟩, ⟨by (with_reducible repeat (first | apply Kd.R_alloc | apply Kd.R_drewN | apply Kd.R_drew)); exact Kd.R_mono (Kd.R_far (p := ⟨gb106, 0, none⟩) (Kd.R_types HO123.out BK106.out (by decide)) (fun _ hk => hk.2) (.slice Ao116 y124.length co116)) (fun _ hk => hk.1.2)⟩, ⟨by (with_reducible repeat (first | refine blk_drewN ?_ _ | refine blk_drew ?_ | refine blk_alloc ?_ _)); refine blk_far ?_ NB101_106.out _; (with_reducible repeat (first | refine blk_drewN ?_ _ | refine blk_drew ?_ | refine blk_alloc ?_ _)); exact BK101.out⟩, ⟨by (with_reducible repeat (first | refine blk_drewN ?_ _ | refine blk_drew ?_ | refine blk_alloc ?_ _)); refine blk_far ?_ NB102_106.out _; (with_reducible repeat (first | refine blk_drewN ?_ _ | refine blk_drew ?_ | refine blk_alloc ?_ _)); exact BK102.out⟩, ⟨by (with_reducible repeat (first | refine blk_drewN ?_ _ | refine blk_drew ?_ | refine blk_alloc ?_ _)); refine blk_put (cs := #[u107000, u107001, .slice Ao113 y121.length co113]) ?_ 0 _ rfl; (with_reducible repeat (first | refine blk_drewN ?_ _ | refine blk_drew ?_ | refine blk_alloc ?_ _)); exact BK106.out⟩, ⟨by repeat (first | (with_reducible first | exact HB.out | apply below_alloc | apply pw_below_drewN | apply below_drew1 | refine below_set ?_ GE101.out | refine below_set ?_ GE102.out | refine below_set ?_ GE106.out) | exact HB.out)⟩⟩
                      · rw [if_neg c108] at H
                        exact absurd H (by simp)
                    · rw [if_neg c107] at H
                      exact absurd H (by simp)
          · rw [if_neg c38] at H
            have c38b0 : decide (x8_2 < a1_1) = false := decide_eq_false c38
            clear c38
            simp only [Option.some.injEq, Prod.mk.injEq] at H
            obtain ⟨rfl, rfl, rfl⟩ := H
            have hnb118 := NB101_102.out
            have hnc118 := NB102_101.out
            have hnb119 := NB101_106.out
            have hnc119 := NB106_101.out
            have hcz120_0 : wr.cell? ⟨gb101, 0, none⟩ = some (.int .i64 a1_0) := (blk_cell BK101.out 0).trans rfl
            have hcz120_1 : wr.cell? ⟨gb101, 1, none⟩ = some (.int .i64 a1_1) := (blk_cell BK101.out 1).trans rfl
            have hfz120_0 := blk_frozen BK101.out 0
            have hfz120_1 := blk_frozen BK101.out 1
            have hnb121 := NB106_102.out
            have hnc121 := NB102_106.out
            have hcz122_0 : wr.cell? ⟨gb106, 0, none⟩ = some (u107000) := (blk_cell BK106.out 0).trans rfl
            have hcz122_1 : wr.cell? ⟨gb106, 1, none⟩ = some (u107001) := (blk_cell BK106.out 1).trans rfl
            have hcz122_2 : wr.cell? ⟨gb106, 2, none⟩ = some (u107002) := (blk_cell BK106.out 2).trans rfl
            have hfz122_0 := blk_frozen BK106.out 0
            have hfz122_1 := blk_frozen BK106.out 1
            have hfz122_2 := blk_frozen BK106.out 2
            obtain ⟨Ao123, co123, eo123⟩ := Kd.R_slice HO_107000.out
            subst eo123
            have hcz124_0 : wr.cell? ⟨gb102, 0, none⟩ = some (.slice none 0 0) := (blk_cell BK102.out 0).trans rfl
            have hcz124_1 : wr.cell? ⟨gb102, 1, none⟩ = some (.slice none 0 0) := (blk_cell BK102.out 1).trans rfl
            have hcz124_2 : wr.cell? ⟨gb102, 2, none⟩ = some (.slice none 0 0) := (blk_cell BK102.out 2).trans rfl
            have hfz124_0 := blk_frozen BK102.out 0
            have hfz124_1 := blk_frozen BK102.out 1
            have hfz124_2 := blk_frozen BK102.out 2
            obtain ⟨Ao125, co125, eo125⟩ := Kd.R_slice HO_107001.out
            subst eo125
            obtain ⟨Ao126, co126, eo126⟩ := Kd.R_slice HO_107002.out
            subst eo126
            go_wp2
            refine bodyPost_ret (results_cell_row rfl _ _ gb102 71 #[.slice Ao123 x107000_2.length co123, .slice Ao125 x107001_2.length co125, .slice Ao126 x107002_2.length co126] (0, 0) _ rfl (by (with_reducible repeat (first | refine blk_drewN ?_ _ | refine blk_drew ?_ | refine blk_alloc ?_ _)); refine blk_put (cs := #[.slice Ao123 x107000_2.length co123, .slice Ao125 x107001_2.length co125, .slice none 0 0]) ?_ 2 _ rfl; (with_reducible repeat (first | refine blk_drewN ?_ _ | refine blk_drew ?_ | refine blk_alloc ?_ _)); refine blk_put (cs := #[.slice Ao123 x107000_2.length co123, .slice none 0 0, .slice none 0 0]) ?_ 1 _ rfl; (with_reducible repeat (first | refine blk_drewN ?_ _ | refine blk_drew ?_ | refine blk_alloc ?_ _)); refine blk_put (cs := #[.slice none 0 0, .slice none 0 0, .slice none 0 0]) ?_ 0 _ rfl; (with_reducible repeat (first | refine blk_drewN ?_ _ | refine blk_drew ?_ | refine blk_alloc ?_ _)); exact BK102.out) Try.underlying71 rfl (by kernel_rfl)) rfl ?_
            exact ⟨_, _, _, by first | rfl | (simp [errW_none, errW_some] <;> rfl) | (simp [*, errW_none, errW_some] <;> rfl), by (with_reducible repeat (first | apply Kd.R_alloc | apply Kd.R_drewN | apply Kd.R_drew)); exact Kd.R_mono (Kd.R_far (p := ⟨gb102, 2, none⟩) (Kd.R_far (p := ⟨gb102, 1, none⟩) (Kd.R_far (p := ⟨gb102, 0, none⟩) (Kd.R_types HO_107000.out BK102.out (by decide)) (fun _ hk => hk.2) (.slice Ao123 x107000_2.length co123)) (fun _ hk => hk.2) (.slice Ao125 x107001_2.length co125)) (fun _ hk => hk.2) (.slice Ao126 x107002_2.length co126)) (fun _ hk => hk.1), by (with_reducible repeat (first | apply Kd.R_alloc | apply Kd.R_drewN | apply Kd.R_drew)); exact Kd.R_mono (Kd.R_far (p := ⟨gb102, 2, none⟩) (Kd.R_far (p := ⟨gb102, 1, none⟩) (Kd.R_far (p := ⟨gb102, 0, none⟩) (Kd.R_types HO_107001.out BK102.out (by decide)) (fun _ hk => hk.2) (.slice Ao123 x107000_2.length co123)) (fun _ hk => hk.2) (.slice Ao125 x107001_2.length co125)) (fun _ hk => hk.2) (.slice Ao126 x107002_2.length co126)) (fun _ hk => trivial), by (with_reducible repeat (first | apply Kd.R_alloc | apply Kd.R_drewN | apply Kd.R_drew)); exact Kd.R_mono (Kd.R_far (p := ⟨gb102, 2, none⟩) (Kd.R_far (p := ⟨gb102, 1, none⟩) (Kd.R_far (p := ⟨gb102, 0, none⟩) (Kd.R_types HO_107002.out BK102.out (by decide)) (fun _ hk => hk.2) (.slice Ao123 x107000_2.length co123)) (fun _ hk => hk.2) (.slice Ao125 x107001_2.length co125)) (fun _ hk => hk.2) (.slice Ao126 x107002_2.length co126)) (fun _ hk => hk.1), by repeat (first | (with_reducible first | exact HB.out | apply below_alloc | apply pw_below_drewN | apply below_drew1 | refine below_set ?_ GE101.out | refine below_set ?_ GE102.out | refine below_set ?_ GE106.out) | exact HB.out)⟩
end Go.Proofs.Yteeghncofacmhaa.Q
end
section
/- Crossings and regions' walks: plain laws on the printed functions. -/
namespace Go.Proofs.Yteeghncofacmhaa.Q
open Go.RowKit Go.Proofs.YteeghncofacmhaaW.PrintWords Go.Proofs.YteeghncofacmhaaW.PrintLast Go.Proofs.YteeghncofacmhaaW.PrintMore
set_option linter.unusedVariables false
set_option linter.unusedSimpArgs false
def crossP (c d : Ch) : Bool := decide (c.f0 < d.f0 ∧ d.f0 < c.f1 ∧ c.f1 < d.f1 ∨ d.f0 < c.f0 ∧ c.f0 < d.f1 ∧ d.f1 < c.f1)
theorem crossP_comm (c d : Ch) : crossP c d = crossP d c := by unfold crossP; rw [decide_eq_decide]; omega
theorem crossing_eq (c d : Ch) : impl_crossing.f c.f0 c.f1 d.f0 d.f1 = some (crossP c d) := by
  unfold impl_crossing.f crossP
  repeat' split
  all_goals congr 1
  all_goals first | (symm; rw [decide_eq_true_iff]; omega) | (symm; rw [decide_eq_false_iff_not]; omega) | (rw [decide_eq_decide]; omega)
theorem crossS_eq {c d : Ch} (hc : c.f0 < c.f1) (hd : d.f0 < d.f1) : crossS c.f0 c.f1 d.f0 d.f1 = crossP c d := by
  unfold crossS crossP; rw [decide_eq_decide]; omega
def cntPairs : List Ch → Nat
  | [] => 0
  | c :: r => r.countP (crossP c) + cntPairs r
theorem cntPairs_snoc (l : List Ch) (c : Ch) : cntPairs (l ++ [c]) = cntPairs l + l.countP (crossP c) := by
  induction l with
  | nil => rfl
  | cons d l ih =>
    simp only [List.cons_append, cntPairs, ih, List.countP_append, List.countP_cons, List.countP_nil]
    rw [crossP_comm c d]; omega
theorem cntPairs_le (l : List Ch) : cntPairs l ≤ l.length * l.length := by
  induction l with
  | nil => exact Nat.le_refl _
  | cons c l ih =>
    have := List.countP_le_length (p := crossP c) (l := l)
    simp only [cntPairs, List.length_cons, Nat.add_mul, Nat.mul_add]; omega
theorem crossed_l0 (l : List Ch) (c : Ch) (hn : l.length ≤ 1000000) : ∀ (d i x : Nat), i + d = l.length → x ≤ i →
    Ev (fun k => impl_crossed.l0 k (x : Int) l (l.length : Int) (i : Int) c.f0 c.f1) ((x + (l.drop i).countP (crossP c) : Nat) : Int) := by
  intro d
  induction d with
  | zero =>
    intro i x hd hx
    refine Ev.some_ fun k => ?_
    simp only [impl_crossed.l0]
    rw [if_neg (by omega), List.drop_eq_nil_of_le (by omega)]; rfl
  | succ d ih =>
    intro i x hd hx
    have hi : i < l.length := by omega
    rw [List.drop_eq_getElem_cons hi, List.countP_cons]
    cases hc : crossP c l[i] with
    | true =>
      refine Ev.step (f := fun k => impl_crossed.l0 k ((x + 1 : Nat) : Int) l (l.length : Int) ((i + 1 : Nat) : Int) c.f0 c.f1) (fun k => ?_) (ev_eq (ih (i + 1) (x + 1) (by omega) (by omega)) (by simp; omega))
      simp only [impl_crossed.l0]
      rw [if_pos (by omega), if_pos (by omega), if_pos (by omega), rdT_at hi, crossing_eq, Option.bind_some, hc, if_pos rfl, w64 hi (by omega), w64 (show x < l.length by omega) (by omega)]
    | false =>
      refine Ev.step (f := fun k => impl_crossed.l0 k (x : Int) l (l.length : Int) ((i + 1 : Nat) : Int) c.f0 c.f1) (fun k => ?_) (ev_eq (ih (i + 1) x (by omega) (by omega)) (by simp))
      simp only [impl_crossed.l0]
      rw [if_pos (by omega), if_pos (by omega), if_pos (by omega), rdT_at hi, crossing_eq, Option.bind_some, hc, if_neg (by simp), w64 hi (by omega)]
theorem crossed_ev (l : List Ch) (c : Ch) (hn : l.length ≤ 1000000) : Ev (fun k => impl_crossed.f k l c.f0 c.f1) (l.countP (crossP c) : Int) := by
  unfold impl_crossed.f
  exact ev_eq (crossed_l0 l c hn l.length 0 0 (by omega) (by omega)) (by simp)
theorem crossings_l0 (l : List Ch) (hn : l.length ≤ 1000000) : ∀ (d i : Nat), i + d = l.length →
    Ev (fun k => impl_crossings.l0 k l (cntPairs (l.take i) : Int) l (l.length : Int) (i : Int)) (cntPairs l : Int) := by
  intro d
  induction d with
  | zero =>
    intro i hd
    refine Ev.some_ fun k => ?_
    simp only [impl_crossings.l0]
    rw [if_neg (by omega), List.take_of_length_le (by omega)]
  | succ d ih =>
    intro i hd
    have hi : i < l.length := by omega
    have h1 : ∀ k, impl_crossings.l0 (k + 1) l (cntPairs (l.take i) : Int) l (l.length : Int) (i : Int) = (impl_crossed.f k (l.take i) l[i].f0 l[i].f1).bind fun t => impl_crossings.l0 k l (wrap64 ((cntPairs (l.take i) : Int) + t)) l (l.length : Int) ((i + 1 : Nat) : Int) := by
      intro k
      simp only [impl_crossings.l0]
      rw [if_pos (by omega), if_pos (by omega), if_pos (by omega), if_pos (by omega), rdT_at hi, w64 hi (by omega), Int.toNat_natCast]
    refine Ev.step h1 (Ev.bind (crossed_ev (l.take i) l[i] (by rw [List.length_take]; omega)) ?_)
    have h2 := cntPairs_le (l.take i)
    have h3 := List.countP_le_length (p := crossP l[i]) (l := l.take i)
    have h4 : (l.take i).length * (l.take i).length ≤ 1000000 * 1000000 := Nat.mul_le_mul (by rw [List.length_take]; omega) (by rw [List.length_take]; omega)
    rw [List.length_take] at h3
    have h5 : wrap64 ((cntPairs (l.take i) : Int) + ((l.take i).countP (crossP l[i]) : Int)) = (cntPairs (l.take (i + 1)) : Int) := by
      rw [List.take_succ_eq_append_getElem hi, cntPairs_snoc, w64s (by omega) (by omega)]; omega
    rw [h5]
    exact ih (i + 1) (by omega)
theorem crossings_ev (l : List Ch) (hn : l.length ≤ 1000000) : Ev (fun k => impl_crossings.f k l) (cntPairs l : Int) := by
  unfold impl_crossings.f
  exact crossings_l0 l hn l.length 0 (by omega)
/-! ### the pairs, as_ the reference lists them -/
def rowP (c : Ch) (i : Nat) : List Ch → Nat → List (List Int)
  | [], _ => []
  | d :: r, j => (if crossS c.f0 c.f1 d.f0 d.f1 = true then [[(i : Int), (j : Int)]] else []) ++ rowP c i r (j + 1)
def allP : List Ch → Nat → List (List Int)
  | [], _ => []
  | c :: r, i => rowP c i r (i + 1) ++ allP r (i + 1)
theorem rowP_length {c : Ch} (i : Nat) (hc : c.f0 < c.f1) : ∀ (l : List Ch) (j : Nat), (∀ d ∈ l, d.f0 < d.f1) → (rowP c i l j).length = l.countP (crossP c)
  | [], _, _ => rfl
  | d :: l, j, h => by
    have hd := h d List.mem_cons_self
    simp only [rowP, List.length_append, rowP_length i hc l (j + 1) (fun x hx => h x (List.mem_cons_of_mem _ hx)), List.countP_cons, crossS_eq hc hd]
    cases crossP c d <;> simp <;> omega
theorem rowP_le {c : Ch} (i : Nat) : ∀ (l : List Ch) (j : Nat), (rowP c i l j).length ≤ l.length
  | [], _ => Nat.le_refl _
  | d :: l, j => by
    have := rowP_le (c := c) i l (j + 1)
    simp only [rowP, List.length_append, List.length_cons]
    split <;> simp <;> omega
theorem allP_length : ∀ (l : List Ch) (i : Nat), (∀ d ∈ l, d.f0 < d.f1) → (allP l i).length = cntPairs l
  | [], _, _ => rfl
  | c :: l, i, h => by
    simp only [allP, List.length_append, cntPairs, allP_length l (i + 1) (fun x hx => h x (List.mem_cons_of_mem _ hx)), rowP_length i (h c List.mem_cons_self) l (i + 1) (fun x hx => h x (List.mem_cons_of_mem _ hx))]
theorem cdPairs_l1 (l : List Ch) (hn : l.length ≤ 1000000) (c : Ch) (i : Nat) (hi : i < l.length) (R : List (List Int)) (x : List (List Int)) (hx : ∀ m, m ≤ l.length → x.length + m ≤ 5000000000000)
    (hnext : Ev (fun k => spec_cdPairs.l0 k l (x ++ rowP c i (l.drop (i + 1)) (i + 1)) l (l.length : Int) ((i + 1 : Nat) : Int)) R) : ∀ (d j : Nat) (y : List (List Int)), j + d = l.length → y ++ rowP c i (l.drop j) j = x ++ rowP c i (l.drop (i + 1)) (i + 1) → y.length ≤ x.length + j →
    Ev (fun k => spec_cdPairs.l1 k l y (i : Int) (j : Int) l (l.length : Int) (i : Int) c.f0 c.f1) R := by
  intro d
  induction d with
  | zero =>
    intro j y hd hy _
    have hj : l.drop j = [] := List.drop_eq_nil_of_le (by omega)
    rw [hj] at hy
    simp only [rowP, List.append_nil] at hy
    refine Ev.step (f := fun k => spec_cdPairs.l0 k l y l (l.length : Int) ((i + 1 : Nat) : Int)) (fun k => ?_) (by rw [hy]; exact hnext)
    simp only [spec_cdPairs.l1]
    rw [if_neg (by omega), w64 hi (by omega)]
  | succ d ih =>
    intro j y hd hy hyl
    have hj : j < l.length := by omega
    rw [List.drop_eq_getElem_cons hj] at hy
    simp only [rowP] at hy
    cases hc : crossS c.f0 c.f1 l[j].f0 l[j].f1 with
    | true =>
      refine Ev.step (f := fun k => spec_cdPairs.l1 k l (y ++ [[(i : Int), (j : Int)]]) (i : Int) ((j + 1 : Nat) : Int) l (l.length : Int) (i : Int) c.f0 c.f1) (fun k => ?_) (ih (j + 1) (y ++ [[(i : Int), (j : Int)]]) (by omega) (by rw [← hy, hc, if_pos rfl, List.append_assoc]) (by simp; omega))
      have := hx j (by omega)
      simp only [spec_cdPairs.l1]
      rw [if_pos (by omega), if_pos (by omega), rdT_at hj]
      simp only [spec_srCross.f, Option.bind_some, hc, if_true]
      rw [if_pos (by omega), w64 hj (by omega)]
    | false =>
      refine Ev.step (f := fun k => spec_cdPairs.l1 k l y (i : Int) ((j + 1 : Nat) : Int) l (l.length : Int) (i : Int) c.f0 c.f1) (fun k => ?_) (ih (j + 1) y (by omega) (by rw [← hy, hc, if_neg (by simp), List.nil_append]) (by omega))
      simp only [spec_cdPairs.l1]
      rw [if_pos (by omega), if_pos (by omega), rdT_at hj]
      simp only [spec_srCross.f, Option.bind_some, hc, Bool.false_eq_true, if_false]
      rw [w64 hj (by omega)]
theorem cdPairs_l0 (l : List Ch) (hn : l.length ≤ 1000000) : ∀ (d i : Nat) (x : List (List Int)), i + d = l.length → x.length ≤ i * l.length →
    Ev (fun k => spec_cdPairs.l0 k l x l (l.length : Int) (i : Int)) (x ++ allP (l.drop i) i) := by
  intro d
  induction d with
  | zero =>
    intro i x hd hx
    refine Ev.some_ fun k => ?_
    simp only [spec_cdPairs.l0]
    rw [if_neg (by omega), List.drop_eq_nil_of_le (by omega)]
    simp [allP]
  | succ d ih =>
    intro i x hd hx
    have hi : i < l.length := by omega
    have hm : i * l.length ≤ 1000000 * 1000000 := Nat.mul_le_mul (by omega) (by omega)
    refine Ev.step (f := fun k => spec_cdPairs.l1 k l x (i : Int) ((i + 1 : Nat) : Int) l (l.length : Int) (i : Int) l[i].f0 l[i].f1) (fun k => ?_) ?_
    · simp only [spec_cdPairs.l0]
      rw [if_pos (by omega), if_pos (by omega), if_pos (by omega), rdT_at hi, w64 hi (by omega)]
    · rw [List.drop_eq_getElem_cons hi]
      simp only [allP]
      rw [← List.append_assoc]
      refine cdPairs_l1 l hn l[i] i hi _ x (fun m hm' => by omega) ?_ d (i + 1) x (by omega) rfl (by omega)
      refine ih (i + 1) _ (by omega) ?_
      have := rowP_le (c := l[i]) i (l.drop (i + 1)) (i + 1)
      rw [List.length_drop] at this
      rw [List.length_append, Nat.add_mul]; omega
theorem cdPairs_ev (l : List Ch) (hn : l.length ≤ 1000000) : Ev (fun k => spec_cdPairs.f k l) (allP l 0) := by
  unfold spec_cdPairs.f
  exact ev_eq (cdPairs_l0 l hn l.length 0 [] (by omega) (by simp)) (by simp)
theorem good_len {n : Int} {l : List Ch} (h : goodSet n l = true) : l.length ≤ 40 := by unfold goodSet at h; simp at h; exact h.2
theorem good_n {n : Int} {l : List Ch} (h : goodSet n l = true) : 3 ≤ n ∧ n ≤ 60 := by unfold goodSet at h; simp at h; exact h.1.1
theorem chk_ok {n : Int} : ∀ {l : List Ch} {p : Option Ch}, chk n p l = true → ∀ c ∈ l, 0 ≤ c.f0 ∧ c.f0 < c.f1 ∧ c.f1 < n
  | [], _, _, c, hc => by simp at hc
  | d :: l, p, h, c, hc => by
    simp only [chk, Bool.and_eq_true] at h
    rcases List.mem_cons.1 hc with rfl | hc
    · simpa [chOk] using h.1.1
    · exact chk_ok h.2 c hc
theorem good_ok {n : Int} {l : List Ch} (h : goodSet n l = true) : ∀ c ∈ l, 0 ≤ c.f0 ∧ c.f0 < c.f1 ∧ c.f1 < n := by
  unfold goodSet at h; simp only [Bool.and_eq_true] at h; exact chk_ok h.1.2
/-- A plane set. -/
def plane (n : Int) (l : List Ch) : Bool := goodSet n l && decide (cntPairs l = 0)
theorem rePlane_ev (n : Int) (l : List Ch) (hn : l.length ≤ 4611686018427387904) : Ev (fun k => spec_rePlane.f k n l) (plane n l) := by
  unfold spec_rePlane.f plane
  refine Ev.bind (cdGood_ev n l (by omega)) ?_
  cases hg : goodSet n l with
  | false => exact ev_eq (Ev.congr (fun k => by rw [if_neg (by simp)]) (Ev.now false)) (by simp)
  | true =>
    refine Ev.congr (f := fun k => (spec_cdPairs.f k l).bind fun t => some ((t.length : Int) == 0)) (fun k => by rw [if_pos rfl]) ?_
    refine Ev.bind (cdPairs_ev l (by have := good_len hg; omega)) (ev_eq (Ev.now _) ?_)
    rw [allP_length l 0 (fun d hd => (good_ok hg d hd).2.1)]
    simp; rw [Bool.eq_iff_iff]; simp
/-! ### slices.Compare -/
def lexCmp : List Int → List Int → Int
  | [], [] => 0
  | [], _ :: _ => -1
  | _ :: _, [] => 1
  | x :: xs, y :: ys => if x < y then -1 else if x > y then 1 else lexCmp xs ys
theorem lexCmp_neg : ∀ xs ys : List Int, lexCmp xs ys < 0 ↔ lexLt xs ys = true
  | [], [] => by simp [lexCmp, lexLt]
  | [], _ :: _ => by simp [lexCmp, lexLt]
  | _ :: _, [] => by simp [lexCmp, lexLt]
  | x :: xs, y :: ys => by
    by_cases h : x < y
    · simp [lexCmp, lexLt, h, show ¬ x = y by omega]
    · by_cases h2 : x > y
      · simp [lexCmp, lexLt, h, h2, show ¬ x = y by omega]
      · have e : x = y := by omega
        subst e
        simpa [lexCmp, lexLt] using lexCmp_neg xs ys
theorem lexCmp_lt (xs ys : List Int) : decide (lexCmp xs ys < 0) = lexLt xs ys := by
  rw [Bool.eq_iff_iff, decide_eq_true_iff]; exact lexCmp_neg xs ys
theorem compare_l0 (xs ys : List Int) (hn : xs.length ≤ 1000000) : ∀ (d i : Nat), i + d = xs.length → i ≤ ys.length →
    Ev (fun k => slices_Compare_int_int.l0 k xs ys xs (xs.length : Int) (i : Int)) (lexCmp (xs.drop i) (ys.drop i)) := by
  intro d
  induction d with
  | zero =>
    intro i hd hy
    refine Ev.some_ fun k => ?_
    simp only [slices_Compare_int_int.l0]
    rw [if_neg (by omega), List.drop_eq_nil_of_le (show xs.length ≤ i by omega)]
    by_cases h : i = ys.length
    · rw [if_neg (by omega), List.drop_eq_nil_of_le (show ys.length ≤ i by omega)]; rfl
    · rw [if_pos (by omega), List.drop_eq_getElem_cons (show i < ys.length by omega)]; rfl
  | succ d ih =>
    intro i hd hy
    have hi : i < xs.length := by omega
    rw [List.drop_eq_getElem_cons hi]
    by_cases h : i = ys.length
    · refine Ev.some_ fun k => ?_
      simp only [slices_Compare_int_int.l0]
      rw [if_pos (by omega), if_pos (by omega), if_pos (by omega), if_pos (by omega), List.drop_eq_nil_of_le (show ys.length ≤ i by omega)]; rfl
    · have hj : i < ys.length := by omega
      rw [List.drop_eq_getElem_cons hj]
      have h1 : ∀ k, slices_Compare_int_int.l0 (k + 1) xs ys xs (xs.length : Int) (i : Int) = if (if xs[i] < ys[i] then (-1 : Int) else if xs[i] > ys[i] then 1 else 0) = 0 then slices_Compare_int_int.l0 k xs ys xs (xs.length : Int) ((i + 1 : Nat) : Int) else some (if xs[i] < ys[i] then (-1 : Int) else if xs[i] > ys[i] then 1 else 0) := by
        intro k
        simp only [slices_Compare_int_int.l0]
        rw [if_pos (by omega), if_pos (by omega), if_pos (by omega), if_neg (by omega), if_pos (by omega), rd_at hi, rd_at hj, cmpInt_eq, Option.bind_some, w64 hi (by omega)]
      refine Ev.step h1 ?_
      simp only [lexCmp]
      by_cases h3 : xs[i] < ys[i]
      · simp only [h3, if_true]
        exact Ev.const (fun k => by simp)
      · by_cases h4 : xs[i] > ys[i]
        · simp only [h3, h4, if_true, if_false]
          exact Ev.const (fun k => by simp)
        · simp only [h3, h4, if_true, if_false]
          exact ih (i + 1) (by omega) (by omega)
theorem compare_ev (xs ys : List Int) (hn : xs.length ≤ 1000000) : Ev (fun k => slices_Compare_int_int.f k xs ys) (lexCmp xs ys) := by
  unfold slices_Compare_int_int.f
  exact compare_l0 xs ys hn xs.length 0 (by omega) (by omega)
/-! ### regionInside -/
/-- The farthest point to which a chord leads from 'at_'. -/
def nextOf (hi : Int) (ex : Option Ch) (at_ : Int) : List Ch → Int → Int
  | [], nx => nx
  | d :: r, nx => nextOf hi ex at_ r (if d.f0 = at_ ∧ d.f1 ≤ hi ∧ nx < d.f1 ∧ ¬ some d = ex then d.f1 else nx)
/-- From 'at_' to the last point. -/
def fw (l : List Ch) (hi : Int) (ex : Option Ch) : Nat → Int → List Int × List Ch × List Int
  | 0, _ => ([], [], [])
  | n + 1, at_ => if at_ < hi then (if nextOf hi ex at_ l at_ > at_ then
      (nextOf hi ex at_ l at_ :: (fw l hi ex n (nextOf hi ex at_ l at_)).1, ⟨at_, nextOf hi ex at_ l at_⟩ :: (fw l hi ex n (nextOf hi ex at_ l at_)).2.1, (fw l hi ex n (nextOf hi ex at_ l at_)).2.2)
      else ((at_ + 1) :: (fw l hi ex n (at_ + 1)).1, (fw l hi ex n (at_ + 1)).2.1, at_ :: (fw l hi ex n (at_ + 1)).2.2)) else ([], [], [])
def exOf (c : Ch) (b : Bool) : Option Ch := if b = true then some c else none
def regionOf (l : List Ch) (c : Ch) (b : Bool) : List Int × List Ch × List Int :=
  (c.f0 :: (fw l c.f1 (exOf c b) (c.f1 - c.f0).toNat c.f0).1, (if b = true then [c] else []) ++ (fw l c.f1 (exOf c b) (c.f1 - c.f0).toNat c.f0).2.1, (if b = true then [] else [c.f1]) ++ (fw l c.f1 (exOf c b) (c.f1 - c.f0).toNat c.f0).2.2)
theorem nextOf_ge (hi : Int) (ex : Option Ch) (at_ : Int) : ∀ (l : List Ch) (nx : Int), nx ≤ nextOf hi ex at_ l nx
  | [], _ => Int.le_refl _
  | d :: l, nx => by
    simp only [nextOf]
    split
    · rename_i h; exact Int.le_trans (Int.le_of_lt h.2.2.1) (nextOf_ge hi ex at_ l _)
    · exact nextOf_ge hi ex at_ l nx
theorem nextOf_le (hi : Int) (ex : Option Ch) (at_ : Int) : ∀ (l : List Ch) (nx : Int), nx ≤ hi → nextOf hi ex at_ l nx ≤ hi
  | [], _, h => h
  | d :: l, nx, h => by
    simp only [nextOf]
    split
    · rename_i h2; exact nextOf_le hi ex at_ l _ h2.2.1
    · exact nextOf_le hi ex at_ l nx h
theorem exOf_iff (c d : Ch) (b : Bool) : some d = exOf c b ↔ b = true ∧ d = c := by
  unfold exOf; cases b <;> simp
theorem inside_l1 (l : List Ch) (c : Ch) (b : Bool) (hn : l.length ≤ 1000) (at_ : Int) (xs : List Int) (cs : List Ch) (as_ : List Int) (R : List Int × List Ch × List Int)
    (hnext : Ev (fun k => if nextOf c.f1 (exOf c b) at_ l at_ > at_ then (if cs.length < 8796093022208 then (if xs.length < 17592186044416 then impl_regionInside.l0 k l b (nextOf c.f1 (exOf c b) at_ l at_) c.f0 c.f1 (xs ++ [nextOf c.f1 (exOf c b) at_ l at_]) (cs ++ [⟨at_, nextOf c.f1 (exOf c b) at_ l at_⟩]) as_ else none) else none) else (if as_.length < 17592186044416 then (if xs.length < 17592186044416 then impl_regionInside.l0 k l b (wrap64 (at_ + 1)) c.f0 c.f1 (xs ++ [wrap64 (at_ + 1)]) cs (as_ ++ [at_]) else none) else none)) R) : ∀ (d i : Nat) (nx : Int), i + d = l.length → nextOf c.f1 (exOf c b) at_ (l.drop i) nx = nextOf c.f1 (exOf c b) at_ l at_ →
    Ev (fun k => impl_regionInside.l1 k l b at_ nx l (l.length : Int) (i : Int) c.f0 c.f1 xs cs as_) R := by
  intro d
  induction d with
  | zero =>
    intro i nx hd hnx
    rw [List.drop_eq_nil_of_le (by omega)] at hnx
    simp only [nextOf] at hnx
    rw [← hnx] at hnext
    refine Ev.step (fun k => ?_) hnext
    simp only [impl_regionInside.l1]
    rw [if_neg (by omega)]
  | succ d ih =>
    intro i nx hd hnx
    have hi : i < l.length := by omega
    rw [List.drop_eq_getElem_cons hi] at hnx
    simp only [nextOf] at hnx
    refine Ev.step (f := fun k => impl_regionInside.l1 k l b at_ (if l[i].f0 = at_ ∧ l[i].f1 ≤ c.f1 ∧ nx < l[i].f1 ∧ ¬ some l[i] = exOf c b then l[i].f1 else nx) l (l.length : Int) ((i + 1 : Nat) : Int) c.f0 c.f1 xs cs as_) (fun k => ?_) (ih (i + 1) _ (by omega) hnx)
    simp only [impl_regionInside.l1]
    rw [if_pos (by omega), if_pos (by omega), if_pos (by omega), rdT_at hi, w64 hi (by omega)]
    by_cases h1 : l[i].f0 = at_
    · by_cases h2 : l[i].f1 ≤ c.f1
      · by_cases h3 : l[i].f1 > nx
        · rw [if_pos h1, if_pos h2, if_pos h3]
          cases b with
          | false =>
            rw [if_neg (by simp), if_pos ⟨h1, h2, h3, by rw [exOf_iff]; simp⟩]
          | true =>
            rw [if_pos rfl]
            by_cases h4 : l[i] = c
            · rw [if_pos (by rw [h4]; simp), if_neg (fun h => h.2.2.2 (by rw [exOf_iff]; exact ⟨rfl, h4⟩))]
            · rw [if_neg (fun h => h4 (by simp at h; exact ch_ext h.1 h.2)), if_pos ⟨h1, h2, h3, by rw [exOf_iff]; exact fun h => h4 h.2⟩]
        · rw [if_pos h1, if_pos h2, if_neg h3, if_neg (fun h => h3 h.2.2.1)]
      · rw [if_pos h1, if_neg h2, if_neg (fun h => h2 h.2.1)]
    · rw [if_neg h1, if_neg (fun h => h1 h.1)]
theorem inside_l0 (l : List Ch) (c : Ch) (b : Bool) (hn : l.length ≤ 1000) (h0 : 0 ≤ c.f0) (h60 : c.f1 ≤ 1000) : ∀ (m n : Nat) (at_ : Int) (xs : List Int) (cs : List Ch) (as_ : List Int), n ≤ m → (c.f1 - at_).toNat ≤ n → c.f0 ≤ at_ → xs.length + n ≤ 10000 → cs.length + n ≤ 10000 → as_.length + n ≤ 10000 →
    Ev (fun k => impl_regionInside.l0 k l b at_ c.f0 c.f1 xs cs as_) (xs ++ (fw l c.f1 (exOf c b) n at_).1, cs ++ (fw l c.f1 (exOf c b) n at_).2.1, as_ ++ (fw l c.f1 (exOf c b) n at_).2.2) := by
  intro m
  induction m with
  | zero =>
    intro n at_ xs cs as_ hm hn' h1 _ _ _
    obtain rfl : n = 0 := by omega
    refine Ev.some_ fun k => ?_
    simp only [impl_regionInside.l0]
    rw [if_neg (by omega)]
    simp [fw]
  | succ m ih =>
    intro n at_ xs cs as_ hm hn' h1 hx hc ha
    by_cases hlt : at_ < c.f1
    · obtain ⟨n, rfl⟩ : ∃ j, n = j + 1 := ⟨n - 1, by omega⟩
      have h2 := nextOf_le c.f1 (exOf c b) at_ l at_ (by omega)
      refine Ev.step (f := fun k => impl_regionInside.l1 k l b at_ at_ l (l.length : Int) 0 c.f0 c.f1 xs cs as_) (fun k => ?_) (inside_l1 l c b hn at_ xs cs as_ _ ?_ l.length 0 at_ (by omega) rfl)
      · simp only [impl_regionInside.l0]
        rw [if_pos hlt]
      · simp only [fw]
        rw [if_pos hlt]
        by_cases hg : nextOf c.f1 (exOf c b) at_ l at_ > at_
        · simp only [hg, if_true]
          refine Ev.congr (fun k => by rw [if_pos (by omega), if_pos (by omega)]) ?_
          refine ev_eq (ih n (nextOf c.f1 (exOf c b) at_ l at_) _ _ _ (by omega) (by omega) (by omega) (by simp; omega) (by simp; omega) (by omega)) ?_
          simp
        · simp only [hg, if_false]
          refine Ev.congr (fun k => by rw [if_pos (by omega), if_pos (by omega), w64s (x := at_ + 1) (by omega) (by omega)]) ?_
          refine ev_eq (ih n (at_ + 1) _ _ _ (by omega) (by omega) (by omega) (by simp; omega) (by omega) (by simp; omega)) ?_
          simp
    · refine Ev.some_ fun k => ?_
      simp only [impl_regionInside.l0]
      rw [if_neg hlt]
      cases n with
      | zero => simp [fw]
      | succ n => simp only [fw]; rw [if_neg hlt]; simp
theorem inside_ev (l : List Ch) (c : Ch) (b : Bool) (hn : l.length ≤ 1000) (h0 : 0 ≤ c.f0) (h60 : c.f1 ≤ 1000) : Ev (fun k => impl_regionInside.f k l c.f0 c.f1 b) (regionOf l c b) := by
  unfold impl_regionInside.f
  simp only [Option.bind_some]
  have h := fun (cs : List Ch) (as_ : List Int) (h1 : cs.length ≤ 1) (h2 : as_.length ≤ 1) => inside_l0 l c b hn h0 h60 _ (c.f1 - c.f0).toNat c.f0 [c.f0] cs as_ (Nat.le_refl _) (Nat.le_refl _) (Int.le_refl _) (by simp; omega) (by omega) (by omega)
  cases b with
  | true =>
    refine Ev.congr (f := fun k => impl_regionInside.j0 k l true c.f0 c.f1 [c.f0] [c] []) (fun k => by rw [if_pos rfl, if_pos (by simp)]; rfl) ?_
    exact Ev.step (fun k => by simp only [impl_regionInside.j0]) (ev_eq (h [c] [] (by simp) (by simp)) rfl)
  | false =>
    refine Ev.congr (f := fun k => impl_regionInside.j0 k l false c.f0 c.f1 [c.f0] [] [c.f1]) (fun k => by rw [if_neg (by simp), if_pos (by simp)]; rfl) ?_
    exact Ev.step (fun k => by simp only [impl_regionInside.j0]) (ev_eq (h [] [c.f1] (by simp) (by simp)) rfl)
end Go.Proofs.Yteeghncofacmhaa.Q
end
section
/-
  DERIVED: THE SHELF's CONTRACTS AT THIS DUMP, IN PLAIN WORDS (tools/lay-plain.mjs out of 'YteeghncofacmhaaShelfX.lean', which tools/lay-shelf.mjs wrote): THE SAME DECLARATIONS UNDER THE SAME NAMES: 'import', 'namespace', 'open', 'def', 'theorem' AND NOTHING ELSE: no command of the shelf's: FOR A HAND-IN. Each laying: the table of numbers ('.._ren') and one theorem, a field a fact of the dump's own or the kernel's comparison; each contract: ONE APPLICATION.
-/
namespace Go.Proofs
open Go.Shelf
def Try.lSortReg_ren : Go.Shelf.Ren := ⟨fun | 6 => 105 | 15 => 135 | 14 => 134 | 28 => 149 | 29 => 150 | 20 => 141 | 21 => 142 | 22 => 143 | 23 => 144 | 24 => 145 | 25 => 146 | 26 => 147 | 27 => 148 | 46 => 159 | 47 => 160 | 48 => 161 | 49 => 162 | 50 => 163 | 57 => 167 | n => n, fun | 22 => 67 | 24 => 71 | 25 => 108 | 3 => 3 | 39 => 121 | 0 => 0 | 53 => 134 | 55 => 88 | 4 => 4 | 46 => 128 | 45 => 127 | 50 => 34 | 5 => 5 | 9 => 9 | 66 => 141 | 70 => 145 | 76 => 149 | 77 => 150 | n => n, fun | n => n⟩
theorem Try.lSortReg : Go.Proofs.SlLaysF0.n6 Try.prog Try.lSortReg_ren := {
  mixed := by kernel_rfl
  f6 := ⟨Try.f105.name, by decide, Try.func105.trans (congrArg some (by kernel_rfl))⟩
  f14 := ⟨Try.f134.name, by decide, Try.func134.trans (congrArg some (by kernel_rfl))⟩
  f15 := Try.func135.trans (congrArg some (by kernel_rfl))
  f20 := ⟨Try.f141.name, by decide, Try.func141.trans (congrArg some (by kernel_rfl))⟩
  f21 := ⟨Try.f142.name, by decide, Try.func142.trans (congrArg some (by kernel_rfl))⟩
  f22 := ⟨Try.f143.name, by decide, Try.func143.trans (congrArg some (by kernel_rfl))⟩
  f23 := ⟨Try.f144.name, by decide, Try.func144.trans (congrArg some (by kernel_rfl))⟩
  f24 := ⟨Try.f145.name, by decide, Try.func145.trans (congrArg some (by kernel_rfl))⟩
  f25 := ⟨Try.f146.name, by decide, Try.func146.trans (congrArg some (by kernel_rfl))⟩
  f26 := ⟨Try.f147.name, by decide, Try.func147.trans (congrArg some (by kernel_rfl))⟩
  f27 := ⟨Try.f148.name, by decide, Try.func148.trans (congrArg some (by kernel_rfl))⟩
  f28 := Try.func149.trans (congrArg some (by kernel_rfl))
  f29 := Try.func150.trans (congrArg some (by kernel_rfl))
  f46 := ⟨Try.f159.name, by decide, Try.func159.trans (congrArg some (by kernel_rfl))⟩
  f47 := Try.func160.trans (congrArg some (by kernel_rfl))
  f48 := Try.func161.trans (congrArg some (by kernel_rfl))
  f49 := ⟨Try.f162.name, by decide, Try.func162.trans (congrArg some (by kernel_rfl))⟩
  f50 := ⟨Try.f163.name, by decide, Try.func163.trans (congrArg some (by kernel_rfl))⟩
  f57 := ⟨Try.f167.name, by decide, Try.func167.trans (congrArg some (by kernel_rfl))⟩
  t0 := Try.underlying0
  a0 := Try.isAgg0
  z0 := Try.sizeOf0
  v0 := Try.zeroValue0
  t3 := Try.underlying3
  a3 := Try.isAgg3
  z3 := Try.sizeOf3
  v3 := Try.zeroValue3
  t4 := Try.underlying4
  a4 := Try.isAgg4
  z4 := Try.sizeOf4
  v4 := Try.zeroValue4
  t5 := Try.underlying5
  a5 := Try.isAgg5
  z5 := Try.sizeOf5
  v5 := Try.zeroValue5
  t9 := Try.underlying9
  a9 := Try.isAgg9
  z9 := Try.sizeOf9
  v9 := Try.zeroValue9
  t22 := Try.underlying67
  a22 := Try.isAgg67
  z22 := Try.sizeOf67
  v22 := Try.zeroValue67
  t25 := Try.underlying108
  a25 := Try.isAgg108
  z25 := Try.sizeOf108
  v25 := Try.zeroValue108
  t39 := Try.underlying121
  a39 := Try.isAgg121
  z39 := Try.sizeOf121
  v39 := Try.zeroValue121
  t45 := Try.underlying127
  a45 := Try.isAgg127
  z45 := Try.sizeOf127
  v45 := Try.zeroValue127
  t46 := Try.underlying128
  a46 := Try.isAgg128
  z46 := Try.sizeOf128
  v46 := Try.zeroValue128
  t50 := Try.underlying34
  a50 := Try.isAgg34
  z50 := Try.sizeOf34
  v50 := Try.zeroValue34
  t53 := Try.underlying134
  a53 := Try.isAgg134
  z53 := Try.sizeOf134
  v53 := Try.zeroValue134
  t55 := Try.underlying88
  a55 := Try.isAgg88
  z55 := Try.sizeOf88
  v55 := Try.zeroValue88
  t66 := Try.underlying141
  a66 := Try.isAgg141
  z66 := Try.sizeOf141
  v66 := Try.zeroValue141
  t70 := Try.underlying145
  a70 := Try.isAgg145
  z70 := Try.sizeOf145
  v70 := Try.zeroValue145
  t76 := Try.underlying149
  a76 := Try.isAgg149
  z76 := Try.sizeOf149
  v76 := Try.zeroValue149
  t77 := Try.underlying150
  a77 := Try.isAgg150
  z77 := Try.sizeOf150
  v77 := Try.zeroValue150 }
def Try.lAnyCh_ren : Go.Shelf.Ren := ⟨fun | 8 => 114 | 6 => 137 | n => n, fun | 22 => 27 | 23 => 64 | 25 => 110 | 4 => 4 | 3 => 3 | 0 => 0 | n => n, fun | n => n⟩
theorem Try.lAnyCh : Go.Proofs.SlLaysH0.n8 Try.prog Try.lAnyCh_ren := {
  mixed := by kernel_rfl
  f6 := ⟨Try.f137.name, by decide, Try.func137.trans (congrArg some (by kernel_rfl))⟩
  f8 := ⟨Try.f114.name, by decide, Try.func114.trans (congrArg some (by kernel_rfl))⟩
  t0 := Try.underlying0
  a0 := Try.isAgg0
  z0 := Try.sizeOf0
  v0 := Try.zeroValue0
  t3 := Try.underlying3
  a3 := Try.isAgg3
  z3 := Try.sizeOf3
  v3 := Try.zeroValue3
  t4 := Try.underlying4
  a4 := Try.isAgg4
  z4 := Try.sizeOf4
  v4 := Try.zeroValue4
  t22 := Try.underlying27
  a22 := Try.isAgg27
  z22 := Try.sizeOf27
  v22 := Try.zeroValue27
  t25 := Try.underlying110
  a25 := Try.isAgg110
  z25 := Try.sizeOf110
  v25 := Try.zeroValue110 }
end Go.Proofs
end
section
namespace Go.Proofs.Yteeghncofacmhaa.Q
open Go.RowKit Go.Proofs.YteeghncofacmhaaW.PrintWords Go.Proofs.YteeghncofacmhaaW.PrintLast Go.Proofs.YteeghncofacmhaaW.PrintMore
attribute [local go_sem] max2_int min2_int max_two min_two max_three min_three max_four min_four   -- for this text's walks alone
set_option linter.unusedVariables false
set_option linter.unusedSimpArgs false
attribute [local go_sem high] eqA64
/-! ### impl_Chord_116: function 116 -/
def impl_Chord_116.l0 : Nat → List (S64) → Int → Int → Int → Int → Option (Int)
  | 0, _, _, _, _, _ => none
  | k + 1, x0, x7, x8, x102000, x102001 => if x8 < x7 then (if 0 ≤ x8 then (if x8 < (x0.length : Int) then (if (x102000 == ((rd_T64 x0 x8).f0) && (x102001 == ((rd_T64 x0 x8).f1))) = true then (some x8) else (impl_Chord_116.l0 k x0 x7 (wrap64 (x8 + 1)) x102000 x102001)) else (none)) else (none)) else (some (-1))
def impl_Chord_116.f (k : Nat) (l0 : List (S64)) (a1_0 : Int) (a1_1 : Int) : Option (Int) := impl_Chord_116.l0 k l0 (l0.length : Int) 0 a1_0 a1_1
set_option maxHeartbeats 8000000 in
set_option maxRecDepth 100000 in
theorem impl_Chord_116.calls (k : Nat) (A0 : Option Addr) (c0 : Nat) (l0 : List (S64)) (a1_0 : Int) (a1_1 : Int) (r : Int) (w : World) (hr0 : Kd.C k64 w A0 l0.length l0) (hc0 : l0.length ≤ c0) (h : impl_Chord_116.f k l0 a1_0 a1_1 = some r) :
    Calls Try.prog 116 #[.slice A0 l0.length c0, .agg #[.int .i64 a1_0, .int .i64 a1_1]] w fun e w' => e = .returned (.int .i64 r) ∧ Below w.heap.size w w' := by
  have hu64 := Try.underlying64
  have HR0 := Aside0.mk hr0
  have HC0 := Aside0.mk hc0
  clear hr0 hc0
  have HB := Aside0.mk (Below.refl w.heap.size w)
  have H : (impl_Chord_116.l0 k l0 (l0.length : Int) 0 a1_0 a1_1) = some r := h
  clear h
  have H' := Aside0.mk H
  clear H
  go_enter Try.func116, Try.ntmps116
  go_wp2_with (first | ((with_reducible refine gate_dst (N := 3) rfl ?_); refine box_event ?hg (N := 3) ?hd (cs := #[.int .i64 a1_0, .int .i64 a1_1]) (t := 64) ?hr ?_; (case hd => rfl); (case hg => rfl); (case hr => first | (go_simp; done) | (go_simp; rfl)); intro gb101 hg w3 hbox hb; have n0_ := Aside0.mk (below_step (by repeat (first | (with_reducible first | exact HB.out | apply below_alloc | apply pw_below_drewN | apply below_drew1) | exact HB.out)) hb); have n1_ := Aside0.mk (hbox); have n2_ := Aside0.mk ((by rw [hg]; exact (below_size (by repeat (first | (with_reducible first | exact HB.out | apply below_alloc | apply pw_below_drewN | apply below_drew1) | exact HB.out))) : w.heap.size ≤ gb101)); have n3_ := Aside0.mk ((by rw [hg]; exact (below_size (by repeat (first | (with_reducible first | exact HB.out | apply below_alloc | apply pw_below_drewN | apply below_drew1) | exact HB.out))) : w.heap.size ≤ gb101)); clear HB; have HB := n0_; have BK101 := n1_; have GW101 := n2_; have GE101 := n3_; clear n0_ n1_ n2_ n3_; clear hb hbox hg))
  repeat (go_quiet (first | ((with_reducible refine gate_dst (N := 3) rfl ?_); refine box_event ?hg (N := 3) ?hd (cs := #[.int .i64 a1_0, .int .i64 a1_1]) (t := 64) ?hr ?_; (case hd => rfl); (case hg => rfl); (case hr => first | (go_simp; done) | (go_simp; rfl)); intro gb101 hg w3 hbox hb; have n0_ := Aside0.mk (below_step (by repeat (first | (with_reducible first | exact HB.out | apply below_alloc | apply pw_below_drewN | apply below_drew1) | exact HB.out)) hb); have n1_ := Aside0.mk (hbox); have n2_ := Aside0.mk ((by rw [hg]; exact (below_size (by repeat (first | (with_reducible first | exact HB.out | apply below_alloc | apply pw_below_drewN | apply below_drew1) | exact HB.out))) : w.heap.size ≤ gb101)); have n3_ := Aside0.mk ((by rw [hg]; exact (below_size (by repeat (first | (with_reducible first | exact HB.out | apply below_alloc | apply pw_below_drewN | apply below_drew1) | exact HB.out))) : w.heap.size ≤ gb101)); clear HB; have HB := n0_; have BK101 := n1_; have GW101 := n2_; have GE101 := n3_; clear n0_ n1_ n2_ n3_; clear hb hbox hg)); try go_wp2_with (first | ((with_reducible refine gate_dst (N := 3) rfl ?_); refine box_event ?hg (N := 3) ?hd (cs := #[.int .i64 a1_0, .int .i64 a1_1]) (t := 64) ?hr ?_; (case hd => rfl); (case hg => rfl); (case hr => first | (go_simp; done) | (go_simp; rfl)); intro gb101 hg w3 hbox hb; have n0_ := Aside0.mk (below_step (by repeat (first | (with_reducible first | exact HB.out | apply below_alloc | apply pw_below_drewN | apply below_drew1) | exact HB.out)) hb); have n1_ := Aside0.mk (hbox); have n2_ := Aside0.mk ((by rw [hg]; exact (below_size (by repeat (first | (with_reducible first | exact HB.out | apply below_alloc | apply pw_below_drewN | apply below_drew1) | exact HB.out))) : w.heap.size ≤ gb101)); have n3_ := Aside0.mk ((by rw [hg]; exact (below_size (by repeat (first | (with_reducible first | exact HB.out | apply below_alloc | apply pw_below_drewN | apply below_drew1) | exact HB.out))) : w.heap.size ≤ gb101)); clear HB; have HB := n0_; have BK101 := n1_; have GW101 := n2_; have GE101 := n3_; clear n0_ n1_ n2_ n3_; clear hb hbox hg)))
  go_loopg [8] k (fun kq v8 w' => ∃ (x8_1 : Int), v8 = .int .i64 x8_1 ∧ Aside0 (impl_Chord_116.l0 kq l0 (l0.length : Int) x8_1 a1_0 a1_1 = some r) ∧ Aside0 (kq ≤ k) ∧ Aside0 (w'.heap[gb101]? = some (.cells #[.int .i64 a1_0, .int .i64 a1_1] 64 (0, 0))) ∧ Aside0 (Below w.heap.size w w'))
  case atStart => exact ⟨(0), (by first | rfl | (simp; done) | (simp [*]; done)), H', ⟨Nat.le_refl _⟩, ⟨by (with_reducible repeat (first | refine blk_drewN ?_ _ | refine blk_drew ?_ | refine blk_alloc ?_ _)); exact BK101.out⟩, ⟨by repeat (first | (with_reducible first | exact HB.out | apply below_alloc | apply pw_below_drewN | apply below_drew1 | refine below_set ?_ GE101.out) | exact HB.out)⟩⟩
  case round =>
    clear H'
    try clear c1
    try clear p2
    obtain ⟨x8_1, rfl, HA, HK1, BK101, HB⟩ := hrel
    cases gk with
    | zero => exact absurd HA.out (by simp [impl_Chord_116.l0])
    | succ k1 =>
      have H := HA.out
      clear HA
      simp only [impl_Chord_116.l0] at H
      by_cases c4 : x8_1 < (l0.length : Int)
      · rw [if_pos c4] at H
        have c4b0 : decide (x8_1 < (l0.length : Int)) = true := decide_eq_true c4
        clear c4
        by_cases c5 : 0 ≤ x8_1
        · rw [if_pos c5] at H
          have c5b0 : decide (0 ≤ x8_1) = true := decide_eq_true c5
          clear c5
          by_cases c6 : x8_1 < (l0.length : Int)
          · rw [if_pos c6] at H
            have c6b0 : decide (x8_1 < (l0.length : Int)) = true := decide_eq_true c6
            clear c6
            by_cases c7 : (a1_0 == ((rd_T64 l0 x8_1).f0) && (a1_1 == ((rd_T64 l0 x8_1).f1))) = true
            · rw [if_pos c7] at H
              have c7b0 : (a1_0 == ((rd_T64 l0 x8_1).f0) && (a1_1 == ((rd_T64 l0 x8_1).f1))) = true := c7
              (try (have c7b1 : decide (a1_0 = ((rd_T64 l0 x8_1).f0) && (a1_1 == ((rd_T64 l0 x8_1).f1))) = true := by simpa using c7))
              (try (have c7b2 : (a1_0 == ((rd_T64 l0 x8_1).f0) && (a1_1 == ((rd_T64 l0 x8_1).f1))) = true := by simpa using c7))
              clear c7
              obtain rfl := Option.some.inj H
              have hcz8_0 : wr.cell? ⟨gb101, 0, none⟩ = some (.int .i64 a1_0) := (blk_cell BK101.out 0).trans rfl
              have hcz8_1 : wr.cell? ⟨gb101, 1, none⟩ = some (.int .i64 a1_1) := (blk_cell BK101.out 1).trans rfl
              have hfz8_0 := blk_frozen BK101.out 0
              have hfz8_1 := blk_frozen BK101.out 1
              have p102 : 0 ≤ (x8_1 : Int) := of_decide_eq_true (by first | (with_reducible assumption) | assumption)
              have q102 : x8_1 < (l0.length : Int) := of_decide_eq_true (by first | (with_reducible assumption) | assumption)
              obtain ⟨ad102, e102, hx102_0, hx102_1⟩ := at_T64 HR0.out x8_1 p102 q102
              cases e102
              try replace hx102_0 := (HB.out.cell (World.block_lt_of_cell? w _ hx102_0)).trans hx102_0
              try replace hx102_1 := (HB.out.cell (World.block_lt_of_cell? w _ hx102_1)).trans hx102_1
              replace p102 := eq_true p102
              replace q102 := eq_true q102
              go_wp2
              repeat (go_quiet (fail); try go_wp2)
              go_ret
              exact ⟨by first | rfl | (simp [errW_none, errW_some] <;> rfl) | (simp [*, errW_none, errW_some] <;> rfl), by repeat (first | (with_reducible first | exact HB.out | apply below_alloc | apply pw_below_drewN | apply below_drew1 | refine below_set ?_ GE101.out) | exact HB.out)⟩
            · rw [if_neg c7] at H
              have c7b0 : (a1_0 == ((rd_T64 l0 x8_1).f0) && (a1_1 == ((rd_T64 l0 x8_1).f1))) = false := by simpa using c7
              (try (have c7b1 : decide (a1_0 = ((rd_T64 l0 x8_1).f0) && (a1_1 == ((rd_T64 l0 x8_1).f1))) = false := by simpa using c7))
              (try (have c7b2 : (a1_0 == ((rd_T64 l0 x8_1).f0) && (a1_1 == ((rd_T64 l0 x8_1).f1))) = false := by simpa using c7))
              (try (have c7b3 : ¬ (a1_0 = ((rd_T64 l0 x8_1).f0) && (a1_1 == ((rd_T64 l0 x8_1).f1))) := by simpa using c7))
              clear c7
              have H' := Aside0.mk H
              clear H
              have hcz9_0 : wr.cell? ⟨gb101, 0, none⟩ = some (.int .i64 a1_0) := (blk_cell BK101.out 0).trans rfl
              have hcz9_1 : wr.cell? ⟨gb101, 1, none⟩ = some (.int .i64 a1_1) := (blk_cell BK101.out 1).trans rfl
              have hfz9_0 := blk_frozen BK101.out 0
              have hfz9_1 := blk_frozen BK101.out 1
              have p102 : 0 ≤ (x8_1 : Int) := of_decide_eq_true (by first | (with_reducible assumption) | assumption)
              have q102 : x8_1 < (l0.length : Int) := of_decide_eq_true (by first | (with_reducible assumption) | assumption)
              obtain ⟨ad102, e102, hx102_0, hx102_1⟩ := at_T64 HR0.out x8_1 p102 q102
              cases e102
              try replace hx102_0 := (HB.out.cell (World.block_lt_of_cell? w _ hx102_0)).trans hx102_0
              try replace hx102_1 := (HB.out.cell (World.block_lt_of_cell? w _ hx102_1)).trans hx102_1
              replace p102 := eq_true p102
              replace q102 := eq_true q102
              go_wp2
              repeat (go_quiet (fail); try go_wp2)
              go_roundg k1
              case measure => have := HK1.out; omega
              case rel => exact ⟨(wrap64 (x8_1 + 1)), (by first | rfl | (simp; done) | (simp [*]; done)), H', ⟨by have := HK1.out; omega⟩, ⟨by (with_reducible repeat (first | refine blk_drewN ?_ _ | refine blk_drew ?_ | refine blk_alloc ?_ _)); exact BK101.out⟩, ⟨by repeat (first | (with_reducible first | exact HB.out | apply below_alloc | apply pw_below_drewN | apply below_drew1 | refine below_set ?_ GE101.out) | exact HB.out)⟩⟩
          · rw [if_neg c6] at H
            exact absurd H (by simp)
        · rw [if_neg c5] at H
          exact absurd H (by simp)
      · rw [if_neg c4] at H
        have c4b0 : decide (x8_1 < (l0.length : Int)) = false := decide_eq_false c4
        clear c4
        obtain rfl := Option.some.inj H
        go_wp2
        repeat (go_quiet (fail); try go_wp2)
        go_ret
        exact ⟨by first | rfl | (simp [errW_none, errW_some] <;> rfl) | (simp [*, errW_none, errW_some] <;> rfl), by repeat (first | (with_reducible first | exact HB.out | apply below_alloc | apply pw_below_drewN | apply below_drew1 | refine below_set ?_ GE101.out) | exact HB.out)⟩
end Go.Proofs.Yteeghncofacmhaa.Q
end
section
namespace Go.Proofs.Yteeghncofacmhaa.Q
open Go.RowKit Go.Proofs.YteeghncofacmhaaW.PrintWords Go.Proofs.YteeghncofacmhaaW.PrintLast Go.Proofs.YteeghncofacmhaaW.PrintMore
attribute [local go_sem] max2_int min2_int max_two min_two max_three min_three max_four min_four   -- for this text's walks alone
set_option linter.unusedVariables false
set_option linter.unusedSimpArgs false
/-! ### impl_Chord_75: function 75 -/
def impl_Chord_75.f (k : Nat) (l0 : List (S64)) (a1_0 : Int) (a1_1 : Int) : Option (Bool) := (impl_Chord_116.f k l0 a1_0 a1_1).bind fun t102 => (some (decide (t102 ≥ 0)))
set_option maxHeartbeats 8000000 in
set_option maxRecDepth 100000 in
theorem impl_Chord_75.calls (k : Nat) (A0 : Option Addr) (c0 : Nat) (l0 : List (S64)) (a1_0 : Int) (a1_1 : Int) (r : Bool) (w : World) (hr0 : Kd.C k64 w A0 l0.length l0) (hc0 : l0.length ≤ c0) (h : impl_Chord_75.f k l0 a1_0 a1_1 = some r) :
    Calls Try.prog 75 #[.slice A0 l0.length c0, .agg #[.int .i64 a1_0, .int .i64 a1_1]] w fun e w' => e = .returned (.bool r) ∧ Below w.heap.size w w' := by
  have hu64 := Try.underlying64
  have HR0 := Aside0.mk hr0
  have HC0 := Aside0.mk hc0
  clear hr0 hc0
  have HB := Aside0.mk (Below.refl w.heap.size w)
  have H : ((impl_Chord_116.f k l0 a1_0 a1_1).bind fun t102 => (some (decide (t102 ≥ 0)))) = some r := h
  clear h
  replace H := Option.bind_eq_some_iff.mp H
  obtain ⟨t102, A30, H⟩ := H
  replace H : (some (decide (t102 ≥ 0))) = some r := H
  have A3 := Aside0.mk A30
  clear A30
  obtain rfl := Option.some.inj H
  go_enter Try.func75, Try.ntmps75
  go_wp2_with (first | ((with_reducible refine gate_dst (N := 3) rfl ?_); refine box_event ?hg (N := 3) ?hd (cs := #[.int .i64 a1_0, .int .i64 a1_1]) (t := 64) ?hr ?_; (case hd => rfl); (case hg => rfl); (case hr => first | (go_simp; done) | (go_simp; rfl)); intro gb101 hg w4 hbox hb; have n0_ := Aside0.mk (below_step (by repeat (first | (with_reducible first | exact HB.out | apply below_alloc | apply pw_below_drewN | apply below_drew1) | exact HB.out)) hb); have n1_ := Aside0.mk (hbox); have n2_ := Aside0.mk ((by rw [hg]; exact (below_size (by repeat (first | (with_reducible first | exact HB.out | apply below_alloc | apply pw_below_drewN | apply below_drew1) | exact HB.out))) : w.heap.size ≤ gb101)); have n3_ := Aside0.mk ((by rw [hg]; exact (below_size (by repeat (first | (with_reducible first | exact HB.out | apply below_alloc | apply pw_below_drewN | apply below_drew1) | exact HB.out))) : w.heap.size ≤ gb101)); clear HB; have HB := n0_; have BK101 := n1_; have GW101 := n2_; have GE101 := n3_; clear n0_ n1_ n2_ n3_; clear hb hbox hg; have hcz5_0 : w4.cell? ⟨gb101, 0, none⟩ = some (.int .i64 a1_0) := (blk_cell BK101.out 0).trans rfl; have hcz5_1 : w4.cell? ⟨gb101, 1, none⟩ = some (.int .i64 a1_1) := (blk_cell BK101.out 1).trans rfl; have hfz5_0 := blk_frozen BK101.out 0; have hfz5_1 := blk_frozen BK101.out 1) | ((with_reducible refine gate_callee (f := 116) rfl ?_); refine goesL_ (some 7) rfl rfl Try.func116 (by kernel_rfl) rfl #[.slice A0 l0.length c0, .agg #[.int .i64 a1_0, .int .i64 a1_1]] rfl (by (try simp only [List.map_toArray, List.map_cons, List.map_nil]); first | done | rfl | (simp only [List.length_drop, List.length_take]; rfl)) ?_; (with_reducible refine (impl_Chord_116.calls k _ _ l0 a1_0 a1_1 t102 _ ?side1 ?side2 A3.out).mono ?_); (case side1 => repeat (first | exact (Kd.C_below HR0.out HB.out) | (with_reducible refine Kd.C_alloc ?_ _) | (with_reducible refine Kd.C_drewN ?_ _) | (with_reducible refine Kd.C_drew ?_))); (case side2 => exact HC0.out); rintro e w6 ⟨rfl, hb⟩; refine ⟨_, rfl, ?_⟩; have n0_ := Aside0.mk (blk_below (g := gb101) (o := .cells #[.int .i64 a1_0, .int .i64 a1_1] 64 (0, 0)) (by (with_reducible repeat (first | refine blk_drewN ?_ _ | refine blk_drew ?_ | refine blk_alloc ?_ _)); exact BK101.out) hb); have n1_ := Aside0.mk (below_step (by repeat (first | (with_reducible first | exact HB.out | apply below_alloc | apply pw_below_drewN | apply below_drew1 | refine below_set ?_ GE101.out) | exact HB.out)) hb); clear BK101; clear HB; have BK101 := n0_; have HB := n1_; clear n0_ n1_; (try clear hb); (try clear hb2); (try clear hk); (try clear hi)))
  go_ret
  exact ⟨by first | rfl | (simp [errW_none, errW_some] <;> rfl) | (simp [*, errW_none, errW_some] <;> rfl), by repeat (first | (with_reducible first | exact HB.out | apply below_alloc | apply pw_below_drewN | apply below_drew1 | refine below_set ?_ GE101.out) | exact HB.out)⟩
end Go.Proofs.Yteeghncofacmhaa.Q
end
section
/- slices.ContainsFunc and slices.Contains at chords. -/
namespace Go.Proofs.Yteeghncofacmhaa.Q
open Go.RowKit Go.Proofs.YteeghncofacmhaaW.PrintWords Go.Proofs.YteeghncofacmhaaW.PrintLast Go.Proofs.YteeghncofacmhaaW.PrintMore
attribute [local go_sem] max2_int min2_int max_two min_two max_three min_three max_four min_four
set_option linter.unusedVariables false
set_option linter.unusedSimpArgs false
theorem indexCh_l0 (xs : List Ch) (x : Ch) (hn : xs.length ≤ 4611686018427387904) : ∀ (d i : Nat), i + d = xs.length → ∃ z : Int, Ev (fun k => impl_Chord_116.l0 k xs (xs.length : Int) (i : Int) x.f0 x.f1) z ∧ decide (z ≥ 0) = (xs.drop i).contains x := by
  intro d
  induction d with
  | zero =>
    intro i hd
    refine ⟨-1, Ev.some_ fun k => ?_, ?_⟩
    · simp only [impl_Chord_116.l0]
      rw [if_neg (by omega)]
    · rw [List.drop_eq_nil_of_le (by omega)]; rfl
  | succ d ih =>
    intro i hd
    have hi : i < xs.length := by omega
    by_cases e : x = xs[i]
    · refine ⟨(i : Int), Ev.some_ fun k => ?_, ?_⟩
      · simp only [impl_Chord_116.l0]
        rw [if_pos (by omega), if_pos (by omega), if_pos (by omega), rdT_at hi, if_pos (by rw [← e]; simp)]
      · rw [List.drop_eq_getElem_cons hi, List.contains_cons, ← e]; simp
    · obtain ⟨z, h1, h2⟩ := ih (i + 1) (by omega)
      refine ⟨z, Ev.step (fun k => ?_) h1, ?_⟩
      · simp only [impl_Chord_116.l0]
        rw [if_pos (by omega), if_pos (by omega), if_pos (by omega), rdT_at hi, if_neg (fun h => e (by simp at h; exact ch_ext h.1 h.2)), w64 hi hn]
      · rw [h2, List.drop_eq_getElem_cons hi, List.contains_cons]
        simp [show (x == xs[i]) = false from by simpa using e]
theorem containsCh_ev (xs : List Ch) (x : Ch) (hn : xs.length ≤ 4611686018427387904) : Ev (fun k => impl_Chord_75.f k xs x.f0 x.f1) (xs.contains x) := by
  unfold impl_Chord_75.f impl_Chord_116.f
  obtain ⟨z, h1, h2⟩ := indexCh_l0 xs x hn xs.length 0 (by omega)
  exact Ev.bind h1 (ev_eq (Ev.now _) h2)
set_option maxHeartbeats 1000000 in
theorem idx_empty (A : Option Addr) (c : Nat) (fv : Value) (W : World) : Calls Try.prog 137 #[.slice A 0 c, fv] W fun e w' => e = .returned (.int .i64 (-1)) ∧ w' = W := by
  go_enter Try.func137, Try.ntmps137
  go_wp2
  refine wp_loop_rounds 1 ?_
  rw [rounds_succ]
  go_wp2
  go_ret
  exact ⟨rfl, rfl⟩
set_option maxHeartbeats 1000000 in
theorem any_empty (A : Option Addr) (c : Nat) (fv : Value) (W : World) : Calls Try.prog 114 #[.slice A 0 c, fv] W fun e w' => e = .returned (.bool false) ∧ w' = W := by
  have h := idx_empty A c fv W
  go_enter Try.func114, Try.ntmps114
  go_wp2_with (go_at_call 137; refine h.mono ?_; rintro e w' ⟨rfl, rfl⟩)
  go_ret
  exact ⟨rfl, rfl⟩
theorem any_ch (W : World) (A : Option Addr) (c : Nat) (l : List Ch) (hC : Kd.C k64 W A l.length l) (g : Nat) (lb : Array Value)
    (eg : ∀ args w, (callFunc g args).run Try.prog w = .ok (.enter g args) w) (p : Ch → Bool)
    (hp : ∀ (W' : World) (x : Ch), x ∈ l → Below W.heap.size W W' → Calls Try.prog g (#[.agg #[.int .i64 x.f0, .int .i64 x.f1]] ++ lb) W' fun e w' => e = .returned (.bool (p x)) ∧ Below W'.heap.size W' w') :
    Calls Try.prog 114 #[.slice A l.length c, .func (.func g) #[] lb] W fun e w' => e = .returned (.bool (l.any p)) ∧ Below W.heap.size W w' := by
  rcases Nat.eq_zero_or_pos l.length with h0 | hn
  · have hl : l = [] := List.eq_nil_of_length_eq_zero h0
    rw [h0]
    refine (any_empty A c _ W).mono ?_
    rintro e w' ⟨rfl, rfl⟩
    rw [hl]
    exact ⟨rfl, Below.refl _ _⟩
  · obtain ⟨_, hmax, hR⟩ := hC
    obtain ⟨ad, ea, hcell⟩ := hR hn
    cases ea
    have hspot : ad.spot = none ∧ ad.block < W.heap.size := by
      obtain ⟨cs, h1, h2, h3⟩ := hcell 0 l[0] (List.getElem?_eq_getElem hn)
      have h4 := h3 0 (.int .i64 l[0].f0) (by rw [k64_open h2]; rfl)
      have h5 := World.block_lt_of_cell? W _ h4
      have e0 : ad.add (0 * 2 + 0) = ad := by simp [Addr.add]
      have h4' : W.cell? (ad.add (0 * 2 + 0)) = some (.int .i64 l[0].f0) := h4
      have h5' : (ad.add (0 * 2 + 0)).block < W.heap.size := h5
      rw [e0] at h4' h5'
      refine ⟨?_, h5'⟩
      unfold World.cell? at h4'
      split at h4'
      · split at h4'
        · cases h4'
        · rename_i hs; simpa using hs
      · cases h4'
    obtain ⟨b, off, sp⟩ := ad
    obtain ⟨rfl, hb⟩ := hspot
    haveI : Inhabited (Fin l.length) := ⟨⟨0, hn⟩⟩
    have hfl : (List.finRange l.length).length = l.length := by simp
    have hget : ∀ (j : Nat) (hj : j < l.length), (List.finRange l.length)[j]! = ⟨j, hj⟩ := fun j hj => by
      rw [getElem!_pos _ j (by rw [hfl]; exact hj)]; simp
    have h := AnyQ.slices_ContainsFunc Try.lAnyCh 2 Try.isAgg64 Try.sizeOf64 (fun i : Fin l.length => [.int .i64 l[i].f0, .int .i64 l[i].f1]) (fun i => rfl) (fun i => p l[i]) g lb eg b off l.length c (List.finRange l.length) W
      (fun W' i hb' => (hp W' l[i] (List.getElem_mem i.2) hb').mono fun e w' ⟨he, hb2⟩ => ⟨he, below_then hb' hb'.size hb2⟩) (by rw [hfl]; exact Nat.le_refl _) hmax hb
      (fun j hj i v hv => by
        rw [hfl] at hj
        rw [hget j hj] at hv
        obtain ⟨cs, h1, h2, h3⟩ := hcell j l[j] (List.getElem?_eq_getElem hj)
        have h4 := h3 i v (by rw [k64_open h2]; exact hv)
        have h5 : W.cell? ((⟨b, off, none⟩ : Addr).add (j * 2 + i)) = some v := h4
        rwa [add_at, ← Nat.add_assoc] at h5)
    have he : ((List.finRange l.length).take l.length).any (fun i => p l[i]) = l.any p := by
      rw [List.take_of_length_le (by rw [hfl]; exact Nat.le_refl _)]
      have h6 : (List.finRange l.length).map (fun i => l[i]) = l := by
        apply List.ext_getElem
        · simp
        · intro i h1 h2; simp
      conv => rhs; rw [← h6]
      rw [List.any_map]
      rfl
    rw [he] at h
    exact h
end Go.Proofs.Yteeghncofacmhaa.Q
end
section
/- A row of rows of whole numbers that the call itself has made, told by its pairs: the row's value and its list. No program is walked here. -/
namespace Go.Proofs.Yteeghncofacmhaa.Q
open Go.RowKit Go.Proofs.YteeghncofacmhaaW.PrintWords Go.Proofs.YteeghncofacmhaaW.PrintLast Go.Proofs.YteeghncofacmhaaW.PrintMore
set_option linter.unusedVariables false
theorem new_block (W : World) (o : Obj) : (W.alloc o).heap[W.heap.size]? = some o := by show (W.heap.push o)[W.heap.size]? = _; simp
theorem new_cell (W : World) (cs : Array Value) (t : TypeId) (j : Nat) : (W.alloc (.cells cs t)).cell? ⟨W.heap.size, j, none⟩ = cs[j]? := blk_cell (new_block W (.cells cs t)) j
/-- The rows themselves: each of the call's own, no two in one block. -/
def RowsP (W : World) (B : Nat) (ps : List (Value × List Int)) : Prop :=
  (∀ p ∈ ps, (Kd.int .i64).R 3 W B (fun _ => True) p.1 p.2) ∧ ps.Pairwise (fun p q => ∀ k, p.1.ownBlock = some k → q.1.ownBlock ≠ some k)
/-- The row that holds them. -/
def RowsO (W : World) (B : Nat) (v : Value) (ps : List (Value × List Int)) : Prop := (Kd.raw 1).R 24 W B (fun _ => True) v (ps.map fun p => [p.1])
theorem RowsP.below {W W1 : World} {B : Nat} {ps : List (Value × List Int)} (h : RowsP W B ps) (hb : Below W.heap.size W W1) : RowsP W1 B ps :=
  ⟨fun p hp => Kd.R_below (h.1 p hp) hb, h.2⟩
theorem RowsO.below {W W1 : World} {B : Nat} {v : Value} {ps : List (Value × List Int)} (h : RowsO W B v ps) (hb : Below W.heap.size W W1) : RowsO W1 B v ps := Kd.R_below h hb
theorem RowsP.lt {W : World} {B : Nat} {ps : List (Value × List Int)} (h : RowsP W B ps) {p : Value × List Int} (hp : p ∈ ps) {k : Nat} (hk : p.1.ownBlock = some k) : k < W.heap.size := Kd.R_lt (h.1 p hp) k hk
theorem RowsP.perm {W : World} {B : Nat} {ps qs : List (Value × List Int)} (h : RowsP W B ps) (hp : ps.Perm qs) : RowsP W B qs :=
  ⟨fun p hq => h.1 p (hp.mem_iff.2 hq), (hp.pairwise_iff (fun {a b} hab k hk he => hab k he hk)).1 h.2⟩
theorem RowsP.sub {W : World} {B : Nat} {ps qs : List (Value × List Int)} (h : RowsP W B ps) (hp : qs.Sublist ps) : RowsP W B qs :=
  ⟨fun p hq => h.1 p (hp.subset hq), h.2.sublist hp⟩
theorem RowsP.nil (W : World) (B : Nat) : RowsP W B [] := ⟨fun _ h => by simp at h, .nil⟩
theorem RowsP.one {W : World} {B : Nat} {u : Value} {r : List Int} (h : (Kd.int .i64).R 3 W B (fun _ => True) u r) : RowsP W B [(u, r)] :=
  ⟨fun p hp => by rw [List.mem_singleton.1 hp]; exact h, List.pairwise_singleton _ _⟩
/-- One more row ahead of the others: its block is none of theirs. -/
theorem RowsP.cons {W : World} {B : Nat} {ps : List (Value × List Int)} (h : RowsP W B ps) {u : Value} {r : List Int} (hu : (Kd.int .i64).R 3 W B (fun _ => True) u r)
    (ha : ∀ p ∈ ps, ∀ k, u.ownBlock = some k → p.1.ownBlock ≠ some k) : RowsP W B ((u, r) :: ps) :=
  ⟨fun p hp => by 
    rcases List.mem_cons.1 hp with rfl | hp
    · exact hu
    · exact h.1 p hp, List.pairwise_cons.2 ⟨fun p hp => ha p hp, h.2⟩⟩
/-- A region is parted: the two new rows lie in blocks that are new, and apart. -/
theorem RowsP.parted {W0 W : World} {B : Nat} {ps : List (Value × List Int)} {i : Nat} (h : RowsP W0 B ps) (hb : Below W0.heap.size W0 W) {u1 u2 : Value} {r1 r2 : List Int}
    (h1 : (Kd.int .i64).R 3 W W0.heap.size (fun k => some k ≠ u2.ownBlock) u1 r1) (h2 : (Kd.int .i64).R 3 W W0.heap.size (fun k => some k ≠ u1.ownBlock) u2 r2) (hB : B ≤ W0.heap.size) :
    RowsP W B (ps.take i ++ [(u1, r1), (u2, r2)] ++ ps.drop (i + 1)) := by
  have hold : RowsP W B (ps.take i ++ ps.drop (i + 1)) := (h.sub (by
    have := List.Sublist.append (List.Sublist.refl (ps.take i)) (List.drop_sublist_drop_left ps (Nat.le_succ i))
    rwa [List.take_append_drop] at this)).below hb
  have e1 : ∀ p ∈ ps.take i ++ ps.drop (i + 1), ∀ k, p.1.ownBlock = some k → k < W0.heap.size := fun p hp k hk => by
    have hm : p ∈ ps := by
      rcases List.mem_append.1 hp with hp | hp
      · exact List.mem_of_mem_take hp
      · exact List.mem_of_mem_drop hp
    exact h.lt hm hk
  have h2' := hold.cons (u := u2) (r := r2) (Kd.R_mono (Kd.R_lower h2 hB) (fun _ _ => trivial)) (fun p hp k hk he => by have := e1 p hp k he; have := Kd.R_base h2 k hk; omega)
  have h3' := h2'.cons (u := u1) (r := r1) (Kd.R_mono (Kd.R_lower h1 hB) (fun _ _ => trivial)) (fun p hp k hk he => by
    rcases List.mem_cons.1 hp with rfl | hp
    · exact h2.1 k he hk.symm
    · have := e1 p hp k he; have := Kd.R_base h1 k hk; omega)
  refine h3'.perm ?_
  rw [List.append_assoc]
  exact (List.perm_append_comm_assoc [(u1, r1), (u2, r2)] (ps.take i) (ps.drop (i + 1))).trans (List.Perm.refl _)
/-- A row of rows that holds one row, as_ a literal lays it. -/
theorem RowsO.one {W : World} {B : Nat} (u : Value) (r : List Int) (h1 : u.oneCell' = true) (hB : B ≤ W.heap.size) :
    RowsO (W.alloc (.cells #[u] 24)) B (.slice (some ⟨W.heap.size, 0, none⟩) 1 1) [(u, r)] := by
  refine ⟨fun _ _ => trivial, [u], World.ownsRow_lit W #[u] 1 hB (by decide) rfl, Reps.one (⟨rfl, rfl, fun x hx => by rw [List.mem_singleton.1 hx]; exact h1⟩) (Reps.none _ _)⟩
theorem RowsO.slice {W : World} {B : Nat} {v : Value} {ps : List (Value × List Int)} (h : RowsO W B v ps) : ∃ A c, v = .slice A ps.length c ∧ ps.length ≤ c ∧ (Kd.raw 1).C W A ps.length (ps.map fun p => [p.1]) := by
  obtain ⟨A, c, he, hl, hc⟩ := Kd.R_reads h
  rw [List.length_map] at he hl hc
  exact ⟨A, c, he, hl, hc⟩
/-- One of the rows, as_ it is read. -/
theorem RowsO.get {W : World} {B : Nat} {A : Option Addr} {n : Nat} {ps : List (Value × List Int)} (hP : RowsP W B ps) (hC : (Kd.raw 1).C W A n (ps.map fun p => [p.1])) (i : Nat) (hi : i < ps.length) (hn : n = ps.length) :
    ∃ ad A0 c0, A = some ad ∧ W.cell? (ad.add i) = some (.slice A0 (ps[i].2).length c0) ∧ ps[i].1 = .slice A0 (ps[i].2).length c0 ∧ (ps[i].2).length ≤ c0 ∧ (Kd.int .i64).C W A0 (ps[i].2).length ps[i].2 := by
  subst hn
  obtain ⟨ad, cs, e, hl, hK, hc⟩ := Kd.C_get hC [] (i : Int) (by omega) (by omega)
  obtain ⟨A0, c0, he, hl0, hC0⟩ := Kd.R_reads (hP.1 ps[i] (List.getElem_mem hi))
  have h1 : (ps.map fun p => [p.1]).getD (i : Int).toNat [] = [ps[i].1] := by
    simp [List.getD_eq_getElem?_getD, List.getElem?_map, List.getElem?_eq_getElem hi]
  rw [h1] at hK
  obtain ⟨rfl, _, _⟩ := hK
  refine ⟨ad, A0, c0, e, ?_, he, hl0, hC0⟩
  have := hc 0 ps[i].1 rfl
  rw [he] at this
  simpa [Kd.raw] using this
/-- As the print tells such a row: no two of its rows lie in one block. -/
theorem RowsO.S {W : World} {B : Nat} {v : Value} {ps : List (Value × List Int)} (hP : RowsP W B ps) (hO : RowsO W B v ps) : Kd.S (Kd.slice 3 (Kd.int .i64)) 24 W B (fun _ => True) v (ps.map Prod.snd) := by
  obtain ⟨_, inner, ho, hr⟩ := id hO
  have hty : ∀ k, v.ownBlock = some k → ∃ cells, W.heap[k]? = some (.cells cells 24 (0, 0)) := fun k hk => Kd.R_typed hO k hk
  refine ⟨fun k => ps.findIdx (fun p => decide (p.1.ownBlock = some k)), fun _ _ => trivial, inner, ?_, ?_, ?_⟩
  · have hl : (ps.map fun p => [p.1]).length = (ps.map Prod.snd).zipIdx.length := by simp
    rw [← hl]; exact ho
  · rw [hr.1]; simp [Kd.tag, Kd.slice, Kd.raw]
  · intro j p hj
    rw [List.getElem?_zipIdx, List.getElem?_map] at hj
    rcases Nat.lt_or_ge j ps.length with hlt | hge
    · rw [List.getElem?_eq_getElem hlt] at hj
      simp only [Option.map_some, Option.some.injEq] at hj
      subst hj
      have h2 := hr.2 j [ps[j].1] (by rw [List.getElem?_map, List.getElem?_eq_getElem hlt]; rfl)
      obtain ⟨h3, _, _⟩ := h2
      have h4 : ((inner.drop (j * 1)).take 1) = [ps[j].1] := h3
      show ∃ u, _ = [u] ∧ _
      refine ⟨ps[j].1, h4, ?_⟩
      have hR := hP.1 ps[j] (List.getElem_mem hlt)
      have hR1 := Kd.R_apart' (v := v) hR hty (by decide)
      have hR2 := Kd.R_tight rfl hR1
      refine Kd.R_mono hR2 (fun k hk => ⟨⟨trivial, fun he => ?_⟩, ?_⟩)
      · exact (hR1.1 k hk.symm).2 he
      · show ps.findIdx _ = 0 + j
        rw [Nat.zero_add, List.findIdx_eq hlt]
        refine ⟨by simpa using hk.symm, fun i hi => ?_⟩
        have := List.pairwise_iff_getElem.1 hP.2 i j (by omega) hlt hi
        simp only [decide_eq_false_iff_not]
        intro he
        exact this k he hk.symm
    · rw [List.getElem?_eq_none hge] at hj; cases hj
/-- 'xs[m:]' of a row of one cell each, the capacity's case aside. -/
theorem cut_row {P : Program} (t e : TypeId) {i : TypeInfo} (ht : P.underlying t = some (.slice e)) (hi : P.info? e = some i) (hsz : i.size = 1) (A : Option Addr) (n c m : Nat) (hm : m ≤ n) (hc : n ≤ c) :
    ∃ A' : Option Addr, (∀ W : World, (Instr.slice t (.slice A n c) (some (.int .i64 (m : Int))) none none).run P W = .ok (.slice A' (n - m) (c - m)) W) ∧
      ∀ {α : Type} (d : Kd α) (W : World) (xs : List α), d.sz = 1 → d.C W A n xs → d.C W A' (n - m) (xs.drop m) := by
  refine ⟨if c = m then A else A.map (·.add m), fun W => ?_, fun d W xs hd h => ?_⟩
  · have hel : P.elem t = e := by simp [Program.elem, ht]
    have hu : P.underlying t = some (.slice (P.elem t)) := by rw [hel]; exact ht
    rw [run_slice_l W t A n c hu .i64 (m : Int) (Int.natCast_nonneg _) (by omega), hel]
    simp [sizeOf, typeInfo, hi, hsz, sliced, Result.andThen]
  · have hn : xs.length = n := h.1
    subst hn
    have := Kd.C_drop h hm hc
    rw [hd, Nat.mul_one] at this
    rwa [List.length_drop] at this
theorem cut_row' {P : Program} (t e : TypeId) {i : TypeInfo} (ht : P.underlying t = some (.slice e)) (hi : P.info? e = some i) (hsz : i.size = 1) (A : Option Addr) (n c m : Nat) (z : Int) (hz : z = (m : Int)) (hm : m ≤ n) (hc : n ≤ c) :
    ∃ A' : Option Addr, (∀ W : World, (Instr.slice t (.slice A n c) (some (.int .i64 z)) none none).run P W = .ok (.slice A' (n - m) (c - m)) W) ∧
      ∀ {α : Type} (d : Kd α) (W : World) (xs : List α), d.sz = 1 → d.C W A n xs → d.C W A' (n - m) (xs.drop m) := by
  subst hz
  exact cut_row t e ht hi hsz A n c m hm hc
/-- 'xs[:m]', whatever the address. -/
theorem take_cut {P : Program} (t e : TypeId) {i : TypeInfo} (ht : P.underlying t = some (.slice e)) (hi : P.info? e = some i) (hsz : i.size = 1) (A : Option Addr) (n c m : Nat) (z : Int) (hz : z = (m : Int)) (hm : m ≤ c) :
    ∀ W : World, (Instr.slice t (.slice A n c) none (some (.int .i64 z)) none).run P W = .ok (.slice A m c) W := by
  subst hz
  intro W
  have hel : P.elem t = e := by simp [Program.elem, ht]
  have hu : P.underlying t = some (.slice (P.elem t)) := by rw [hel]; exact ht
  rw [run_slice_h W t A n c hu .i64 (m : Int) (Int.natCast_nonneg _) (by omega), hel]
  cases A <;> simp [sizeOf, typeInfo, hi, hsz, sliced, Result.andThen, Addr.add]
theorem take_row {α : Type} (d : Kd α) {W : World} {A : Option Addr} {n m : Nat} {xs : List α} (h : d.C W A n xs) (hm : m ≤ n) : d.C W A m (xs.take m) := by
  have hn : xs.length = n := h.1
  subst hn
  have := Kd.C_take h hm
  rwa [List.length_take, Nat.min_eq_left hm] at this
theorem below_alloc2 {w W : World} (h : Below w.heap.size w W) (o : Obj) : Below w.heap.size w (W.alloc o) := h.alloc h.size o
/-- Two values in a new block, read as_ a row. -/
theorem two_row (W : World) (u1 u2 : Value) (t : TypeId) (h1 : u1.oneCell' = true) (h2 : u2.oneCell' = true) : (Kd.raw 1).C (W.alloc (.cells #[u1, u2] t)) (some ⟨W.heap.size, 0, none⟩) 2 [[u1], [u2]] := by
  have h : (Kd.raw 1).R t (W.alloc (.cells #[u1, u2] t)) 0 (fun _ => True) (.slice (some ⟨W.heap.size, 0, none⟩) 2 2) [[u1], [u2]] :=
    ⟨fun _ _ => trivial, [u1, u2], World.ownsRow_lit W #[u1, u2] 2 (Nat.zero_le _) (by decide) rfl, Reps.one ⟨rfl, rfl, fun x hx => by rw [List.mem_singleton.1 hx]; exact h1⟩ (Reps.one ⟨rfl, rfl, fun x hx => by rw [List.mem_singleton.1 hx]; exact h2⟩ (Reps.none _ _))⟩
  exact (Kd.R_reads' h).2.2
theorem one_row (W : World) (u1 : Value) (t : TypeId) (h1 : u1.oneCell' = true) : (Kd.raw 1).C (W.alloc (.cells #[u1] t)) (some ⟨W.heap.size, 0, none⟩) 1 [[u1]] := by
  have h : (Kd.raw 1).R t (W.alloc (.cells #[u1] t)) 0 (fun _ => True) (.slice (some ⟨W.heap.size, 0, none⟩) 1 1) [[u1]] :=
    ⟨fun _ _ => trivial, [u1], World.ownsRow_lit W #[u1] 1 (Nat.zero_le _) (by decide) rfl, Reps.one ⟨rfl, rfl, fun x hx => by rw [List.mem_singleton.1 hx]; exact h1⟩ (Reps.none _ _)⟩
  exact (Kd.R_reads' h).2.2
theorem none_row (W : World) (B : Nat) (t : TypeId) (hB : B ≤ W.heap.size) : (Kd.raw 1).R t (W.alloc (.cells #[] t)) B (fun _ => True) (.slice (some ⟨W.heap.size, 0, none⟩) 0 0) [] :=
  ⟨fun _ _ => trivial, [], World.ownsRow_lit W #[] 0 hB (by decide) rfl, Reps.none _ _⟩
end Go.Proofs.Yteeghncofacmhaa.Q
end
