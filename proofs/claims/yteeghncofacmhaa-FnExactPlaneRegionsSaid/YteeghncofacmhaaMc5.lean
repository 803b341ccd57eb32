/- The proof of FnExactPlaneRegions, part 6 of 6; no condition: the statement as it is given. Merged by pack.py out of this session's texts. -/
import Derived.Test.YteeghncofacmhaaRows
import Derived.WalkKit
import Derived.ProofKit
import Derived.OpenShut
import Derived.ChangeOld
import Derived.Below
import Derived.SizedLaws
import Derived.Test.YteeghncofacmhaaMc4
import Derived.Test.YteeghncofacmhaaMc0
import Derived.Test.YteeghncofacmhaaMc2
import Derived.Test.YteeghncofacmhaaMc3
section
/- impl.PlaneRegions by hand: its rows lie apart. -/
namespace Go.Proofs.Yteeghncofacmhaa.Q
open Go.RowKit Go.Proofs.YteeghncofacmhaaW.PrintWords Go.Proofs.YteeghncofacmhaaW.PrintLast Go.Proofs.YteeghncofacmhaaW.PrintMore
attribute [local go_sem] max2_int min2_int max_two min_two max_three min_three max_four min_four
set_option linter.unusedVariables false
set_option linter.unusedSimpArgs false
/-- The points' rows of a row of regions: where they stand, and that they lie apart. -/
theorem S_regs {W : World} {B g c : Nat} {rs : List S71} (h : Kd.S k71 71 W B (fun _ => True) (.slice (some ⟨g, 0, none⟩) rs.length c) rs) :
    ∃ ps : List (Value × List Int), ps.map Prod.snd = rs.map (fun x => x.f0) ∧ RowsP W B ps ∧ ∀ (j : Nat) (hj : j < ps.length), W.cell? ((⟨g, 0, none⟩ : Addr).add (j * 3)) = some ps[j].1 := by
  obtain ⟨f, _, inner, ho, hr⟩ := h
  rw [List.length_zipIdx] at ho
  have hil : inner.length = rs.length * 3 := by
    have := hr.1
    rw [List.length_zipIdx] at this
    exact this
  have hM : ∀ j : Fin rs.length, ∃ u : Value, (Kd.int .i64).R 3 W B (fun k => f k = j.1) u rs[j].f0 ∧ inner[j.1 * 3]? = some u := fun j => by
    have h2 := hr.2 j.1 (rs[j], j.1) (by rw [List.getElem?_zipIdx, List.getElem?_eq_getElem j.2]; simp)
    obtain ⟨v0, v1, v2, hcs, hR, _, _⟩ := k71_openM h2
    have hcs2 : (inner.drop (j.1 * 3)).take 3 = [v0, v1, v2] := hcs
    refine ⟨v0, Kd.R_mono hR (fun k hk => hk.2), ?_⟩
    have h3 := congrArg (fun l => l[0]?) hcs2
    simp only [List.getElem?_take, List.getElem?_drop] at h3
    simpa using h3
  refine ⟨(List.finRange rs.length).map (fun j => ((hM j).choose, rs[j].f0)), ?_, ⟨fun p hp => ?_, ?_⟩, fun j hj => ?_⟩
  · rw [List.map_map]
    apply List.ext_getElem
    · simp
    · intro i h1 h2; simp
  · obtain ⟨j, _, rfl⟩ := List.mem_map.1 hp
    exact Kd.R_mono (hM j).choose_spec.1 (fun _ _ => trivial)
  · refine List.pairwise_iff_getElem.2 fun i j hi hj hij k hk he => ?_
    simp only [List.getElem_map, List.getElem_finRange] at hk he
    have h1 := (hM _).choose_spec.1.1 k hk
    have h2 := (hM _).choose_spec.1.1 k he
    simp at h1 h2
    omega
  · simp only [List.getElem_map, List.getElem_finRange]
    have hj2 : j < rs.length := by simpa using hj
    have h1 := (hM ⟨j, hj2⟩).choose_spec.2
    have := ho.cells (g := g) rfl (j * 3) _ h1
    exact this
def facesRes (n : Int) (l : List Ch) : List (List Int) × Bool := if plane n l = true then ((regs n l).map (fun x => x.f0), true) else ([], false)
set_option maxHeartbeats 4000000 in
set_option maxRecDepth 100000 in
theorem planeR_calls (a0 : Int) (A1 : Option Addr) (c1 : Nat) (l1 : List S64) (w : World) (hr1 : Kd.C k64 w A1 l1.length l1) (hc1 : l1.length ≤ c1) (hl : l1.length ≤ 4611686018427387904) :
    Calls Try.prog 22 #[.int .i64 a0, .slice A1 l1.length c1] w fun e w' => ∃ v0_ : Value, e = .returned (.tuple #[v0_, .bool (facesRes a0 l1).2]) ∧ Kd.S (Kd.slice 3 (Kd.int .i64)) 24 w' w.heap.size (fun _ => True) v0_ (facesRes a0 l1).1 ∧ Below w.heap.size w w' := by
  unfold facesRes
  cases hp : plane a0 l1 with
  | false =>
    have h59 := impl_planeRegions.calls a0 A1 c1 l1 [] false _ hr1 hc1 (by unfold impl_planeRegions.f; rw [if_pos hl, hp]; rfl)
    replace h59 := Aside0.mk h59
    clear hr1 hc1 hl hp
    go_enter Try.func22, Try.ntmps22
    go_wp2_with (go_at_call 59; refine h59.out.mono ?_; rintro e w' ⟨v0, rfl, _, hb⟩)
    go_ret2
    exact ⟨_, rfl, Kd.S_nil _ _ _ _ _, hb⟩
  | true =>
    have h59 := impl_planeRegions.calls a0 A1 c1 l1 (regs a0 l1) true _ hr1 hc1 (by unfold impl_planeRegions.f; rw [if_pos hl, hp]; rfl)
    have hrl : (regs a0 l1).length = l1.length + 1 := by unfold regs ids; simp
    have hl40 := good_len (plane_good hp)
    rw [if_pos rfl]
    generalize regs a0 l1 = rs at h59 hrl ⊢
    replace h59 := Aside0.mk h59
    clear hr1 hc1 hl hp
    go_enter Try.func22, Try.ntmps22
    go_wp2_with fail
    (with_reducible refine h59.out.mono ?_)
    rintro e w1 ⟨v0, rfl, hS, hb⟩
    obtain ⟨g, c, rfl, _, hC, hg⟩ := S_head hS (by omega)
    obtain ⟨ps, hps, hP, hcl⟩ := S_regs hS
    have hpl : ps.length = rs.length := by
      have := congrArg List.length hps
      simpa using this
    generalize (⟨g, 0, none⟩ : Addr) = ad0 at hC hcl ⊢
    have hrl40 : rs.length ≤ 41 := by omega
    clear hrl hg
    replace hC := Aside0.mk hC
    replace hP := Aside0.mk hP
    replace hcl := Aside0.mk hcl
    replace hb := Aside0.mk hb
    replace hps := Aside0.mk hps
    clear hS
    go_wp2_with fail
    have O0 : Aside0 (RowsO (w1.alloc (.cells #[] 24)) w1.heap.size (.slice (some ⟨w1.heap.size, 0, none⟩) 0 0) []) := ⟨none_row w1 w1.heap.size 24 (Nat.le_refl _)⟩
    have B0 : Aside0 (Below w1.heap.size w1 (w1.alloc (.cells #[] 24))) := ⟨below_alloc (Below.refl _ _) _⟩
    go_loopw [8, 22] (fun v8 v22 wr => ∃ j : Nat, v22 = .int .i64 (j : Int) ∧ Aside0 (j ≤ rs.length) ∧ Aside0 (RowsO wr w1.heap.size v8 (ps.take j)) ∧ Aside0 (Below w1.heap.size w1 wr)) (fun _ v22 _ => rs.length - (intOf v22).toNat)
    case atStart => exact ⟨0, rfl, ⟨Nat.zero_le _⟩, O0, B0⟩
    case round =>
      clear O0 B0
      obtain ⟨j, rfl, hj, HO, HB⟩ := hrel
      replace hj := hj.out
      by_cases hlt : j < rs.length
      · have hl : decide ((j : Int) < (rs.length : Int)) = true := decide_eq_true (by omega)
        obtain ⟨ad, A0, c0, A2, c2, A3, c3, ea, hx0, hx1, hx2, _⟩ := at_T71 hC.out (j : Int) (by omega) (by omega)
        cases ea
        have hu : ps[j].1 = .slice A0 (rd_T71 rs (j : Int)).f0.length c0 := by
          have h1 := hcl.out j (by omega)
          rw [Int.toNat_natCast] at hx0
          rw [h1] at hx0
          exact Option.some.inj hx0
        replace hx0 := (HB.out.cell (World.block_lt_of_cell? w1 _ hx0)).trans hx0
        replace hx1 := (HB.out.cell (World.block_lt_of_cell? w1 _ hx1)).trans hx1
        replace hx2 := (HB.out.cell (World.block_lt_of_cell? w1 _ hx2)).trans hx2
        rw [Int.toNat_natCast] at hx0 hx1 hx2
        have ht : ps.take (j + 1) = ps.take j ++ [ps[j]] := List.take_succ_eq_append_getElem (by omega)
        have hmap : Aside0 ((ps.take (j + 1)).map (fun p => [p.1]) = (ps.take j).map (fun p => [p.1]) ++ [[.slice A0 (rd_T71 rs (j : Int)).f0.length c0]]) := ⟨by rw [ht, List.map_append]; simp [hu]⟩
        have htl : (ps.take j).length = j := by rw [List.length_take]; omega
        clear ht hu
        generalize rd_T71 rs (j : Int) = rj at hx0 hx1 hx2 hmap
        have HO1 := Aside0.mk (Kd.R_alloc HO.out (.cells #[.slice A0 rj.f0.length c0, .slice A2 rj.f1.length c2, .slice A3 rj.f2.length c3] 71))
        have HB1 := Aside0.mk (below_alloc HB.out (.cells #[.slice A0 rj.f0.length c0, .slice A2 rj.f1.length c2, .slice A3 rj.f2.length c3] 71))
        clear HO HB
        go_wp2_with (((with_reducible refine gate_builtin (b := .append) (xs := #[.tmp 26, .tmp 29]) rfl ?_); at_builtin; refine Kd.R_append (Kd.raw 1) (w0 := w1) w1.heap.size rfl (.tmp 26) (.tmp 29) 37 24 (.slice none 0 0) 24 rfl Try.underlying37 info24 rfl (by decide) (by omega) u8 ((ps.take j).map fun p : Value × List Int => [p.1]) [.slice A0 rj.f0.length c0] [.slice A0 rj.f0.length c0] (fun _ => True) (fun _ => False) rfl (by show Value.slice (some ⟨wr.heap.size + 1, 0, none⟩) 1 1 = _; simp) ⟨rfl, rfl, fun u hu => by rw [List.mem_singleton.1 hu]; rfl⟩ (fun _ hk => hk.elim) (fun _ _ => trivial) HO1.out HB1.out HB1.out.size ?aL ?_; (case aL => simp; omega); intro v5 w5 ho_ hb_ hg_ ha_; have HO5 := Aside0.mk ho_; have HB5 := Aside0.mk hb_; clear ho_ hb_ hg_ ha_))
        go_roundw
        case rel => exact ⟨j + 1, by go_num, ⟨by omega⟩, ⟨by unfold RowsO; rw [hmap.out]; exact HO5.out⟩, HB5⟩
        case measure => simp [intOf]; omega
      · have hl : decide ((j : Int) < (rs.length : Int)) = false := decide_eq_false (by omega)
        obtain rfl : j = rs.length := by omega
        have hS := RowsO.S (hP.out.below HB.out) (by have := Kd.R_lower HO.out hb.out.size; rw [List.take_of_length_le (by omega)] at this; exact this)
        rw [hps.out] at hS
        replace hS := Aside0.mk hS
        clear HO hcl hC hP
        go_wp2_with fail
        go_ret2
        exact ⟨_, rfl, hS.out, below_step hb.out HB.out⟩
end Go.Proofs.Yteeghncofacmhaa.Q
end
section
namespace Go.Proofs.Yteeghncofacmhaa.Q
open Go.RowKit Go.Proofs.YteeghncofacmhaaW.PrintWords Go.Proofs.YteeghncofacmhaaW.PrintLast Go.Proofs.YteeghncofacmhaaW.PrintMore
attribute [local go_sem] max2_int min2_int max_two min_two max_three min_three max_four min_four   -- for this text's walks alone
set_option linter.unusedVariables false
set_option linter.unusedSimpArgs false
/-! ### spec_RegionSizes: function 11 -/
def spec_RegionSizes.l0 : Nat → List Int → List (List Int) → Int → Int → Option (List Int × Bool)
  | 0, _, _, _, _ => none
  | k + 1, x6, x15, x16, x17 => if x17 < x16 then (if 0 ≤ x17 then (if x17 < (x15.length : Int) then (if x6.length < 17592186044416 then (spec_RegionSizes.l0 k (x6 ++ [((rd_L4 x15 x17).length : Int)]) x15 x16 (wrap64 (x17 + 1))) else (none)) else (none)) else (none)) else (some (x6, true))
def spec_RegionSizes.f (k : Nat) (a0 : Int) (l1 : List (S64)) : Option (List Int × Bool) := (spec_rePlane.f k a0 l1).bind fun t101 => (if t101 = true then ((spec_reList.f a0 l1).bind fun t102 => (spec_RegionSizes.l0 k ([] : List Int) t102 (t102.length : Int) 0)) else (some (([] : List Int), false)))
end Go.Proofs.Yteeghncofacmhaa.Q
end
section
namespace Go.Proofs.Yteeghncofacmhaa.Q
open Go.RowKit Go.Proofs.YteeghncofacmhaaW.PrintWords Go.Proofs.YteeghncofacmhaaW.PrintLast Go.Proofs.YteeghncofacmhaaW.PrintMore
attribute [local go_sem] max2_int min2_int max_two min_two max_three min_three max_four min_four   -- for this text's walks alone
set_option linter.unusedVariables false
set_option linter.unusedSimpArgs false
/-! ### impl_RegionSizes: function 13 -/
def impl_RegionSizes.l0 : Nat → List Int → List (S71) → Int → Int → Option (List Int × Bool)
  | 0, _, _, _, _ => none
  | k + 1, x8, x20, x21, x22 => if x22 < x21 then (if 0 ≤ x22 then (if x22 < (x20.length : Int) then (if x8.length < 17592186044416 then (impl_RegionSizes.l0 k (x8 ++ [(((rd_T71 x20 x22).f0).length : Int)]) x20 x21 (wrap64 (x22 + 1))) else (none)) else (none)) else (none)) else (some (x8, true))
def impl_RegionSizes.f (k : Nat) (a0 : Int) (l1 : List (S64)) : Option (List Int × Bool) := (impl_planeRegions.f a0 l1).bind fun bt101 => (if bt101.2 = true then (impl_RegionSizes.l0 k (([] : List Int)) bt101.1 (bt101.1.length : Int) 0) else (some (([] : List Int), false)))
end Go.Proofs.Yteeghncofacmhaa.Q
end
section
namespace Go.Proofs.Yteeghncofacmhaa.Q
open Go.RowKit Go.Proofs.YteeghncofacmhaaW.PrintWords Go.Proofs.YteeghncofacmhaaW.PrintLast Go.Proofs.YteeghncofacmhaaW.PrintMore
attribute [local go_sem] max2_int min2_int max_two min_two max_three min_three max_four min_four   -- for this text's walks alone
set_option linter.unusedVariables false
set_option linter.unusedSimpArgs false
/-! ### laws_FnExactRegionSizes: function 3 -/
mutual
def laws_FnExactRegionSizes.j0 : Nat → Int → List (S66) → List Int → Bool → List (S64) → List Int → Bool → Bool → Option (Bool)
  | 0, _, _, _, _, _, _, _, _ => none
  | k + 1, x0, x1, x6, x7, x8, x9, x10, x44 => if x44 = true then (some false) else ((laws_toChordS.f k x1).bind fun t117 => ((laws_eqChordS.f k x8 t117).bind fun t120 => (if t120 = true then ((laws_markChordS.f k x8 1).bind fun bt121 => (if bt121.1 < 0 then (laws_FnExactRegionSizes.j1 k x0 x1 x6 x7 x9 true) else ((laws_eqIntS.f k x9 x6).bind fun t123 => (if t123 = true then (laws_FnExactRegionSizes.j1 k x0 x1 x6 x7 x9 (x10 != x7)) else (laws_FnExactRegionSizes.j1 k x0 x1 x6 x7 x9 true))))) else (some false))))
def laws_FnExactRegionSizes.j1 : Nat → Int → List (S66) → List Int → Bool → List Int → Bool → Option (Bool)
  | 0, _, _, _, _, _, _ => none
  | k + 1, x0, x1, x6, x7, x9, x65 => if x65 = true then (some false) else ((laws_markIntS.f k x9 1).bind fun bt124 => ((laws_heldIntS.f k bt124.2 1).bind fun t126 => (if t126 < 0 then (some false) else (if t126 = bt124.1 then ((laws_toChordS.f k x1).bind fun t127 => ((impl_RegionSizes.f k x0 t127).bind fun bt130 => ((laws_eqIntS.f k bt130.1 x6).bind fun t134 => (if t134 = true then (laws_FnExactRegionSizes.j2 k bt124.2 bt124.1 (bt130.2 != x7)) else (laws_FnExactRegionSizes.j2 k bt124.2 bt124.1 true))))) else (some false)))))
def laws_FnExactRegionSizes.j2 : Nat → List Int → Int → Bool → Option (Bool)
  | 0, _, _, _ => none
  | k + 1, x9, x12, x92 => if x92 = true then (some false) else ((laws_heldIntS.f k x9 1).bind fun t135 => (if t135 < 0 then (some false) else (if t135 = x12 then (some true) else (some false))))
end
def laws_FnExactRegionSizes.f (k : Nat) (a0 : Int) (l1 : List (S66)) : Option (Bool) := (laws_szChordS.f l1 1048576).bind fun t101 => (if t101 < 0 then (some true) else ((laws_toChordS.f k l1).bind fun t102 => ((spec_RegionSizes.f k a0 t102).bind fun bt105 => ((laws_toChordS.f k l1).bind fun t109 => ((impl_RegionSizes.f k a0 t109).bind fun bt112 => ((laws_eqIntS.f k bt112.1 bt105.1).bind fun t116 => (if t116 = true then (laws_FnExactRegionSizes.j0 k a0 l1 bt105.1 bt105.2 t109 bt112.1 bt112.2 (bt112.2 != bt105.2)) else (laws_FnExactRegionSizes.j0 k a0 l1 bt105.1 bt105.2 t109 bt112.1 bt112.2 true))))))))
end Go.Proofs.Yteeghncofacmhaa.Q
end
section
/- RegionSizes: both sides tell the same; the law is true. -/
namespace Go.Proofs.Yteeghncofacmhaa.Q
open Go.RowKit Go.Proofs.YteeghncofacmhaaW.PrintWords Go.Proofs.YteeghncofacmhaaW.PrintLast Go.Proofs.YteeghncofacmhaaW.PrintMore
set_option linter.unusedVariables false
set_option linter.unusedSimpArgs false
theorem regs_points {n : Int} {l : List Ch} (h : plane n l = true) : (regs n l).map (fun x => x.f0) = faces n l := by
  have hnc := plane_nc h
  have hn := (good_n (plane_good h)).1
  unfold regs faces
  rw [List.map_mergeSort (s := fun x y => lexLe x y) (fun _ _ _ _ => rfl), List.map_map]
  congr 1
  refine List.map_congr_left fun q hq => ?_
  exact reg_points hnc (by omega) (mem_ids.1 hq)
theorem reList_eq {n : Int} {l : List Ch} (h : plane n l = true) : spec_reList.f n l = some (faces n l) := by
  unfold spec_reList.f
  rw [if_pos ⟨(good_n (plane_good h)).2, good_len (plane_good h)⟩, reRegions_eq (plane_nc h) (good_nodup (plane_good h))]
theorem faces_length (n : Int) (l : List Ch) : (faces n l).length = l.length + 1 := by
  unfold faces ids; simp
end Go.Proofs.Yteeghncofacmhaa.Q
end
section
namespace Go.Proofs.Yteeghncofacmhaa.Q
open Go.RowKit Go.Proofs.YteeghncofacmhaaW.PrintWords Go.Proofs.YteeghncofacmhaaW.PrintLast Go.Proofs.YteeghncofacmhaaW.PrintMore
attribute [local go_sem] max2_int min2_int max_two min_two max_three min_three max_four min_four   -- for this text's walks alone
set_option linter.unusedVariables false
set_option linter.unusedSimpArgs false
/-! ### spec_l1Least: function 84 -/
def spec_l1Least.f (a0 : Int) (a1 : Int) : Option (Int) := if a0 < a1 then (some a0) else (some a1)
end Go.Proofs.Yteeghncofacmhaa.Q
end
section
namespace Go.Proofs.Yteeghncofacmhaa.Q
open Go.RowKit Go.Proofs.YteeghncofacmhaaW.PrintWords Go.Proofs.YteeghncofacmhaaW.PrintLast Go.Proofs.YteeghncofacmhaaW.PrintMore
attribute [local go_sem] max2_int min2_int max_two min_two max_three min_three max_four min_four   -- for this text's walks alone
set_option linter.unusedVariables false
set_option linter.unusedSimpArgs false
/-! ### spec_l1Most: function 85 -/
def spec_l1Most.f (a0 : Int) (a1 : Int) : Option (Int) := if a0 > a1 then (some a0) else (some a1)
end Go.Proofs.Yteeghncofacmhaa.Q
end
section
namespace Go.Proofs.Yteeghncofacmhaa.Q
open Go.RowKit Go.Proofs.YteeghncofacmhaaW.PrintWords Go.Proofs.YteeghncofacmhaaW.PrintLast Go.Proofs.YteeghncofacmhaaW.PrintMore
attribute [local go_sem] max2_int min2_int max_two min_two max_three min_three max_four min_four   -- for this text's walks alone
set_option linter.unusedVariables false
set_option linter.unusedSimpArgs false
/-! ### spec_srChord: function 108 -/
def spec_srChord.f (a0 : Int) (a1 : Int) : Option (Int × Int) := (spec_l1Least.f a0 a1).bind fun t102 => ((spec_l1Most.f a0 a1).bind fun t103 => (some (t102, t103)))
end Go.Proofs.Yteeghncofacmhaa.Q
end
section
namespace Go.Proofs.Yteeghncofacmhaa.Q
open Go.RowKit Go.Proofs.YteeghncofacmhaaW.PrintWords Go.Proofs.YteeghncofacmhaaW.PrintLast Go.Proofs.YteeghncofacmhaaW.PrintMore
attribute [local go_sem] max2_int min2_int max_two min_two max_three min_three max_four min_four   -- for this text's walks alone
set_option linter.unusedVariables false
set_option linter.unusedSimpArgs false
attribute [local go_sem high] eqA64
/-! ### spec_reArc: function 62 -/
mutual
def spec_reArc.l0 : Nat → List (S64) → Int → Int → List (List Int) → Int → Int → Option (Int)
  | 0, _, _, _, _, _, _ => none
  | k + 1, x1, x3, x9, x19, x20, x21 => if x21 < x20 then (if 0 ≤ x21 then (if x21 < (x19.length : Int) then ((spec_l1Has.f k (rd_L4 x19 x21) x3).bind fun t102 => (if t102 = true then ((spec_l1Has.f k (rd_L4 x19 x21) x9).bind fun t103 => (spec_reArc.j1 k x1 x3 x9 x21 (rd_L4 x19 x21) x19 x20 x21 (!t103))) else (spec_reArc.j1 k x1 x3 x9 x21 (rd_L4 x19 x21) x19 x20 x21 true))) else (none)) else (none)) else (some (-1))
def spec_reArc.j1 : Nat → List (S64) → Int → Int → Int → List Int → List (List Int) → Int → Int → Bool → Option (Int)
  | 0, _, _, _, _, _, _, _, _, _ => none
  | k + 1, x1, x3, x9, x10, x11, x19, x20, x21, x35 => if x35 = true then (spec_reArc.l0 k x1 x3 x9 x19 x20 (wrap64 (x21 + 1))) else (spec_reArc.l1 k x1 x3 x9 x10 x11 false x19 x20 x21 x1 (x1.length : Int) 0)
def spec_reArc.l1 : Nat → List (S64) → Int → Int → Int → List Int → Bool → List (List Int) → Int → Int → List (S64) → Int → Int → Option (Int)
  | 0, _, _, _, _, _, _, _, _, _, _, _, _ => none
  | k + 1, x1, x3, x9, x10, x11, x12, x19, x20, x21, x36, x37, x38 => if x38 < x37 then (if 0 ≤ x38 then (if x38 < (x36.length : Int) then (if x12 = true then (spec_reArc.l1 k x1 x3 x9 x10 x11 true x19 x20 x21 x36 x37 (wrap64 (x38 + 1))) else ((spec_srChord.f x3 x9).bind fun bt106 => (spec_reArc.l1 k x1 x3 x9 x10 x11 (((rd_T64 x36 x38).f0) == bt106.1 && (((rd_T64 x36 x38).f1) == bt106.2)) x19 x20 x21 x36 x37 (wrap64 (x38 + 1))))) else (none)) else (none)) else (if x12 = true then (if (x11.length : Int) = 2 then (some x10) else (spec_reArc.l0 k x1 x3 x9 x19 x20 (wrap64 (x21 + 1)))) else (some x10))
end
def spec_reArc.f (k : Nat) (a0 : Int) (l1 : List (S64)) (l2 : List (List Int)) (a3 : Int) : Option (Int) := if a0 = 0 then (none) else (spec_reArc.l0 k l1 a3 (Int.tmod (wrap64 (a3 + 1)) a0) l2 (l2.length : Int) 0)
end Go.Proofs.Yteeghncofacmhaa.Q
end
section
namespace Go.Proofs.Yteeghncofacmhaa.Q
open Go.RowKit Go.Proofs.YteeghncofacmhaaW.PrintWords Go.Proofs.YteeghncofacmhaaW.PrintLast Go.Proofs.YteeghncofacmhaaW.PrintMore
attribute [local go_sem] max2_int min2_int max_two min_two max_three min_three max_four min_four   -- for this text's walks alone
set_option linter.unusedVariables false
set_option linter.unusedSimpArgs false
/-! ### spec_RegionOfArc: function 19 -/
def spec_RegionOfArc.j0 : Nat → Int → List (S64) → Int → Bool → Option (Int × Bool)
  | 0, _, _, _, _ => none
  | k + 1, x0, x1, x2, x18 => if x18 = true then (some (0, false)) else ((spec_reList.f x0 x1).bind fun t103 => ((spec_reArc.f k x0 x1 t103 x2).bind fun t106 => (some (t106, true))))
def spec_RegionOfArc.f (k : Nat) (a0 : Int) (l1 : List (S64)) (a2 : Int) : Option (Int × Bool) := (spec_rePlane.f k a0 l1).bind fun t101 => (if t101 = true then ((spec_l1In.f a2 0 (wrap64 (a0 - 1))).bind fun t102 => (spec_RegionOfArc.j0 k a0 l1 a2 (!t102))) else (spec_RegionOfArc.j0 k a0 l1 a2 true))
end Go.Proofs.Yteeghncofacmhaa.Q
end
section
namespace Go.Proofs.Yteeghncofacmhaa.Q
open Go.RowKit Go.Proofs.YteeghncofacmhaaW.PrintWords Go.Proofs.YteeghncofacmhaaW.PrintLast Go.Proofs.YteeghncofacmhaaW.PrintMore
attribute [local go_sem] max2_int min2_int max_two min_two max_three min_three max_four min_four   -- for this text's walks alone
set_option linter.unusedVariables false
set_option linter.unusedSimpArgs false
/-! ### laws_FnExactRegionOfArc: function 4 -/
def laws_FnExactRegionOfArc.j0 : Nat → List (S66) → List (S64) → Bool → Option (Bool)
  | 0, _, _, _ => none
  | k + 1, x1, x10, x42 => if x42 = true then (some false) else ((laws_toChordS.f k x1).bind fun t112 => ((laws_eqChordS.f k x10 t112).bind fun t115 => (if t115 = true then (some true) else (some false))))
def laws_FnExactRegionOfArc.f (k : Nat) (a0 : Int) (l1 : List (S66)) (a2 : Int) : Option (Bool) := (laws_szChordS.f l1 1048576).bind fun t101 => (if t101 < 0 then (some true) else ((laws_toChordS.f k l1).bind fun t102 => ((spec_RegionOfArc.f k a0 t102 a2).bind fun bt105 => ((laws_toChordS.f k l1).bind fun t107 => ((impl_RegionOfArc.f a0 t107 a2).bind fun bt110 => (if bt110.1 = bt105.1 then (laws_FnExactRegionOfArc.j0 k l1 t107 (bt110.2 != bt105.2)) else (laws_FnExactRegionOfArc.j0 k l1 t107 true)))))))
end Go.Proofs.Yteeghncofacmhaa.Q
end
section
/- RegionOfArc: both sides tell the same region; the law is true. -/
namespace Go.Proofs.Yteeghncofacmhaa.Q
open Go.RowKit Go.Proofs.YteeghncofacmhaaW.PrintWords Go.Proofs.YteeghncofacmhaaW.PrintLast Go.Proofs.YteeghncofacmhaaW.PrintMore
set_option linter.unusedVariables false
set_option linter.unusedSimpArgs false
theorem faces_small {n : Int} {l : List Ch} (h : plane n l = true) : ∀ r ∈ faces n l, r.length ≤ 100 := fun r hr => by
  rw [← regs_points h, List.mem_map] at hr
  obtain ⟨x, hx, rfl⟩ := hr
  exact (regs_small h hx).1
end Go.Proofs.Yteeghncofacmhaa.Q
end
section
/- FnExactPlaneRegions: the law's own walk, given that both sides tell the same rows. -/
namespace Go.Proofs.Yteeghncofacmhaa.Q
open Go.RowKit Go.Proofs.YteeghncofacmhaaW.PrintWords Go.Proofs.YteeghncofacmhaaW.PrintLast Go.Proofs.YteeghncofacmhaaW.PrintMore
attribute [local go_sem] max2_int min2_int max_two min_two max_three min_three max_four min_four
set_option linter.unusedVariables false
set_option linter.unusedSimpArgs false
set_option maxHeartbeats 8000000 in
set_option maxRecDepth 100000 in
theorem FnExactPlaneRegions_walk (rows : Int → List Ch → List (List Int)) (ok : Int → List Ch → Bool) (hcnt : ∀ n l, cnt (rows n l) ≤ 1000000 ∧ (rows n l).length ≤ 1000000)
    (hspec : ∀ (a0 : Int) (A : Option Addr) (c : Nat) (l : List Ch) (W : World), Kd.C k64 W A l.length l → l.length ≤ c → l.length ≤ 1048576 → Calls Try.prog 21 #[.int .i64 a0, .slice A l.length c] W fun e w' => ∃ v0_ : Value, e = .returned (.tuple #[v0_, .bool (ok a0 l)]) ∧ Kd.S (Kd.slice 3 (Kd.int .i64)) 24 w' W.heap.size (fun _ => True) v0_ (rows a0 l) ∧ Below W.heap.size W w')
    (himpl : ∀ (a0 : Int) (A : Option Addr) (c : Nat) (l : List Ch) (W : World), Kd.C k64 W A l.length l → l.length ≤ c → l.length ≤ 1048576 → Calls Try.prog 22 #[.int .i64 a0, .slice A l.length c] W fun e w' => ∃ v0_ : Value, e = .returned (.tuple #[v0_, .bool (ok a0 l)]) ∧ Kd.S (Kd.slice 3 (Kd.int .i64)) 24 w' W.heap.size (fun _ => True) v0_ (rows a0 l) ∧ Below W.heap.size W w')
    (a0 : Int) (A : Option Addr) (c : Nat) (l : List S66) (w : World) (hr : Kd.C k66 w A l.length l) (hc : l.length ≤ c) :
    Calls Try.prog 5 #[.int .i64 a0, .slice A l.length c] w fun e w' => e = .returned (.bool true) ∧ Below w.heap.size w w' := by
  have hlm := hr.2.1
  have hsz := fun W hW => laws_szChordS.calls A c l 1048576 _ W (Kd.C_below hr hW) hc (szChordS_eq l hlm)
  by_cases hbig : 1048576 < l.length
  · rw [if_pos hbig] at hsz
    have h0 := hsz w (Below.refl _ _)
    clear hsz hr hc hlm hbig hcnt hspec himpl
    go_enter Try.func5, Try.ntmps5
    go_wp2_with (go_at_call 10; refine h0.mono ?_; rintro e w' ⟨rfl, ⟨nd, rfl⟩⟩)
    go_ret
    exact ⟨rfl, pw_below_drewN (Below.refl _ _) nd⟩
  · rw [if_neg hbig] at hsz
    have hl2 : l.length ≤ 1048576 := by omega
    have hcl := toCh_length l
    obtain ⟨kt, hkt⟩ := toChordS_ev l hl2
    have hto : ∀ W, Below w.heap.size w W → Calls Try.prog 12 #[.slice A l.length c] W fun e w' => ∃ (A' : Option Addr) (c' : Nat), e = .returned (.slice A' (toCh l).length c') ∧ Kd.R k64 64 w' W.heap.size (fun _ => True) (.slice A' (toCh l).length c') (toCh l) ∧ Below W.heap.size W w' := fun W hW => by
      refine (laws_toChordS.calls kt A c l _ W (Kd.C_below hr hW) hc (hkt kt (Nat.le_refl _))).mono ?_
      rintro e w' ⟨v, rfl, hR, hb⟩
      obtain ⟨A', c', rfl⟩ := Kd.R_slice hR
      exact ⟨A', c', rfl, hR, hb⟩
    have hcn := hcnt a0 (toCh l)
    have hsp := hspec a0
    have him := himpl a0
    clear hspec himpl hcnt hkt kt
    have htl : (toCh l).length ≤ 1048576 := by omega
    generalize htc : toCh l = tl at hto hcn hcl htl
    have hsp1 : ∀ (A : Option Addr) (c : Nat) (W : World), Kd.R k64 64 W w.heap.size (fun _ => True) (.slice A tl.length c) tl → Calls Try.prog 21 #[.int .i64 a0, .slice A tl.length c] W fun e w' => ∃ (A' : Option Addr) (c' : Nat), e = .returned (.tuple #[.slice A' (rows a0 tl).length c', .bool (ok a0 tl)]) ∧ Kd.S (Kd.slice 3 (Kd.int .i64)) 24 w' W.heap.size (fun _ => True) (.slice A' (rows a0 tl).length c') (rows a0 tl) ∧ Below W.heap.size W w' := fun A c W hR => by
      refine (hsp A c tl W (Kd.R_reads' hR).2.2 (Kd.R_reads' hR).2.1 htl).mono ?_
      rintro e w' ⟨v, rfl, hS, hb⟩
      obtain ⟨A', c', rfl⟩ := Kd.S_slice hS
      exact ⟨A', c', rfl, hS, hb⟩
    have him1 : ∀ (A : Option Addr) (c : Nat) (W : World), Kd.R k64 64 W w.heap.size (fun _ => True) (.slice A tl.length c) tl → Calls Try.prog 22 #[.int .i64 a0, .slice A tl.length c] W fun e w' => ∃ (A' : Option Addr) (c' : Nat), e = .returned (.tuple #[.slice A' (rows a0 tl).length c', .bool (ok a0 tl)]) ∧ Kd.S (Kd.slice 3 (Kd.int .i64)) 24 w' W.heap.size (fun _ => True) (.slice A' (rows a0 tl).length c') (rows a0 tl) ∧ Below W.heap.size W w' := fun A c W hR => by
      refine (him A c tl W (Kd.R_reads' hR).2.2 (Kd.R_reads' hR).2.1 htl).mono ?_
      rintro e w' ⟨v, rfl, hS, hb⟩
      obtain ⟨A', c', rfl⟩ := Kd.S_slice hS
      exact ⟨A', c', rfl, hS, hb⟩
    generalize rows a0 tl = rw_ at hsp1 him1 hcn
    generalize ok a0 tl = okb at hsp1 him1
    clear hsp him htc rows ok
    obtain ⟨ke, hke⟩ := eqIntSS_refl rw_ (by omega) (by omega)
    have heq : ∀ (W : World) (b1 b2 : Nat) (A1 : Option Addr) (c1 : Nat) (A2 : Option Addr) (c2 : Nat), Kd.S (Kd.slice 3 (Kd.int .i64)) 24 W b1 (fun _ => True) (.slice A1 rw_.length c1) rw_ → Kd.S (Kd.slice 3 (Kd.int .i64)) 24 W b2 (fun _ => True) (.slice A2 rw_.length c2) rw_ →
        Calls Try.prog 23 #[.slice A1 rw_.length c1, .slice A2 rw_.length c2] W fun e w' => e = .returned (.bool true) ∧ Drawn0 W w' :=
      fun W b1 b2 A1 c1 A2 c2 h1 h2 => laws_eqIntSS.calls ke A1 c1 rw_ A2 c2 rw_ true W (Kd.S_reads' h1).2.2 (Kd.S_reads' h1).2.1 (Kd.S_reads' h2).2.2 (Kd.S_reads' h2).2.1 (hke ke (Nat.le_refl _))
    obtain ⟨kc, hkc⟩ := eqChordS_refl tl (by omega)
    have heqc : ∀ (W : World) (b1 b2 : Nat) (A1 : Option Addr) (c1 : Nat) (A2 : Option Addr) (c2 : Nat), Kd.R k64 64 W b1 (fun _ => True) (.slice A1 tl.length c1) tl → Kd.R k64 64 W b2 (fun _ => True) (.slice A2 tl.length c2) tl →
        Calls Try.prog 15 #[.slice A1 tl.length c1, .slice A2 tl.length c2] W fun e w' => e = .returned (.bool true) ∧ Below W.heap.size W w' :=
      fun W b1 b2 A1 c1 A2 c2 h1 h2 => laws_eqChordS.calls kc A1 c1 tl A2 c2 tl true W (Kd.R_reads' h1).2.2 (Kd.R_reads' h1).2.1 (Kd.R_reads' h2).2.2 (Kd.R_reads' h2).2.1 (hkc kc (Nat.le_refl _))
    obtain ⟨m, l', hm0, km, hkm⟩ := markChordS_ev tl htl
    have hmc : ∀ (w0 W : World) (N : Nat) (v : Value), Below w0.heap.size w0 W → Kd.R k64 64 W w0.heap.size (fun k => k < N) v tl → Calls Try.prog 16 #[v, .int .i64 1] W fun e w' => e = .returned (.int .i64 m) ∧ Below w0.heap.size w0 w' ∧ Kept W w' (fun k => k < N) := fun w0 W N v hb hR =>
      (laws_markChordS.calls km (fun k => k < N) v tl 1 m l' w0 W hb hR (hkm km (Nat.le_refl _))).mono fun e w' ⟨he, _, h2, h3⟩ => ⟨he, h2, h3⟩
    have hms : ∀ (W : World) (B : Nat) (v : Value), B ≤ W.heap.size → Kd.S (Kd.slice 3 (Kd.int .i64)) 24 W B (fun _ => True) v rw_ → Calls Try.prog 24 #[v, .int .i64 1] W fun e w' => e = .returned (.int .i64 (1 + (cnt rw_ : Int))) ∧ Kd.S (Kd.slice 3 (Kd.int .i64)) 24 w' B (fun _ => True) v (marks 1 rw_) ∧ Below B W w' :=
      fun W B v hB hS => laws_markIntSS.calls W B v rw_ 1 hB hS (by omega) (by omega) (by omega)
    obtain ⟨kh, hkh⟩ := heldIntSS_ev rw_ 1 ⟨by omega, by omega⟩ (by omega)
    have hml := marks_length rw_ 1
    have hhe : ∀ (W : World) (B : Nat) (A1 : Option Addr) (c1 : Nat), Kd.S (Kd.slice 3 (Kd.int .i64)) 24 W B (fun _ => True) (.slice A1 rw_.length c1) (marks 1 rw_) → Calls Try.prog 25 #[.slice A1 rw_.length c1, .int .i64 1] W fun e w' => e = .returned (.int .i64 (1 + (cnt rw_ : Int))) ∧ Drawn0 W w' := fun W B A1 c1 hS => by
      have h1 := Kd.S_reads' hS
      have := laws_heldIntSS.calls kh A1 c1 (marks 1 rw_) 1 _ W h1.2.2 (by have := h1.2.1; omega) (hkh kh (Nat.le_refl _))
      rwa [hml] at this
    have hpos : (0 : Int) < 1 + (cnt rw_ : Int) := by omega
    have hn0 : decide (1 + (cnt rw_ : Int) < 0) = false := decide_eq_false (by omega)
    have hm1 : decide (m < 0) = false := decide_eq_false (by omega)
    have hlt0 : decide ((1048576 : Int) - (l.length : Int) < 0) = false := decide_eq_false (by omega)
    replace hto := Aside0.mk hto
    replace hsp1 := Aside0.mk hsp1
    replace him1 := Aside0.mk him1
    replace heq := Aside0.mk heq
    replace heqc := Aside0.mk heqc
    replace hmc := Aside0.mk hmc
    replace hms := Aside0.mk hms
    replace hhe := Aside0.mk hhe
    replace hsz := Aside0.mk hsz
    clear hke ke hkc kc hkm km hkh kh hml hr hc hlm hcl htl hcn hbig hl2 hpos
    generalize (1 : Int) + (cnt rw_ : Int) = z at hms hhe hn0
    generalize marks 1 rw_ = mk_ at hms hhe
    go_enter Try.func5, Try.ntmps5
    go_wp2_with fail
    (with_reducible refine (hsz.out _ (Below.refl _ _)).mono ?_)
    rintro e w' ⟨rfl, ⟨nd, rfl⟩⟩
    go_wp2_with fail
    -- w0 of the reference
    (with_reducible refine (hto.out _ (pw_below_drewN (Below.refl _ _) _)).mono ?_)
    rintro e w1 ⟨A1, c1, rfl, hR1, hb1⟩
    have hb1' : Aside0 (Below w.heap.size w w1) := ⟨below_then (pw_below_drewN (Below.refl _ _) _) (Nat.le_refl _) hb1⟩
    have hR1' : Aside0 (Kd.R k64 64 w1 w.heap.size (fun _ => True) (.slice A1 tl.length c1) tl) := ⟨hR1⟩
    clear hR1 hb1
    go_wp2_with fail
    (with_reducible refine (hsp1.out _ _ _ hR1'.out).mono ?_)
    rintro e w2 ⟨A2, c2, rfl, hS2, hb2⟩
    have HB0 : Aside0 (Below w.heap.size w w2) := ⟨below_step hb1'.out hb2⟩
    have HS2 : Aside0 (Kd.S (Kd.slice 3 (Kd.int .i64)) 24 w2 w1.heap.size (fun _ => True) (.slice A2 rw_.length c2) rw_) := ⟨hS2⟩
    clear hR1' hb1' hS2 hb2 hsp1
    go_wp2_with fail
    -- x1
    (with_reducible refine (hto.out _ HB0.out).mono ?_)
    rintro e w3 ⟨A3, c3, rfl, hR3, hb3⟩
    have HB3 : Aside0 (Below w2.heap.size w2 w3) := ⟨hb3⟩
    have HR3 : Aside0 (Kd.R k64 64 w3 w2.heap.size (fun k => k < w3.heap.size) (.slice A3 tl.length c3) tl) := ⟨Kd.R_mono (Kd.R_bound hR3) (fun k hk => hk.2.2.1)⟩
    clear hR3 hb3
    go_wp2_with fail
    -- g
    (with_reducible refine (him1.out _ _ _ (Kd.R_lower (Kd.R_mono HR3.out (fun _ _ => trivial)) HB0.out.size)).mono ?_)
    rintro e w4 ⟨A4, c4, rfl, hS4, hb4⟩
    have HB4 : Aside0 (Below w3.heap.size w3 w4) := ⟨hb4⟩
    have HS4 : Aside0 (Kd.S (Kd.slice 3 (Kd.int .i64)) 24 w4 w3.heap.size (fun _ => True) (.slice A4 rw_.length c4) rw_) := ⟨hS4⟩
    have HB24 : Aside0 (Below w2.heap.size w2 w4) := ⟨below_step HB3.out HB4.out⟩
    have hle23 : Aside0 (w2.heap.size ≤ w3.heap.size) := ⟨HB3.out.size⟩
    clear hS4 hb4
    go_wp2_with fail
    (with_reducible refine (heq.out _ _ _ _ _ _ _ HS4.out (Kd.S_below HS2.out HB24.out)).mono ?_)
    rintro e w5 ⟨rfl, ⟨nd1, rfl⟩⟩
    go_wp2_with fail
    -- x1 is as_ it was
    (with_reducible refine (hto.out _ (below_step HB0.out (pw_below_drewN HB24.out nd1))).mono ?_)
    rintro e w5 ⟨A5, c5, rfl, hR5, hb5⟩
    have HB45 : Aside0 (Below w4.heap.size w4 w5) := ⟨below_then (pw_below_drewN (Below.refl _ _) nd1) (Nat.le_refl _) hb5⟩
    have HR5 : Aside0 (Kd.R k64 64 w5 w4.heap.size (fun _ => True) (.slice A5 tl.length c5) tl) := ⟨hR5⟩
    clear hR5 hb5
    have HB25 : Aside0 (Below w2.heap.size w2 w5) := ⟨below_step HB24.out HB45.out⟩
    have HB35 : Aside0 (Below w3.heap.size w3 w5) := ⟨below_step HB4.out HB45.out⟩
    go_wp2_with fail
    (with_reducible refine (heqc.out _ _ _ _ _ _ _ (Kd.R_mono (Kd.R_below HR3.out HB35.out) (fun _ _ => trivial)) HR5.out).mono ?_)
    rintro e w6 ⟨rfl, hb6⟩
    have HB46 : Aside0 (Below w4.heap.size w4 w6) := ⟨below_step HB45.out hb6⟩
    have HB26 : Aside0 (Below w2.heap.size w2 w6) := ⟨below_step HB25.out hb6⟩
    have HB36 : Aside0 (Below w3.heap.size w3 w6) := ⟨below_step HB35.out hb6⟩
    clear hb6 HR5 HB45 HB25 HB35
    go_wp2_with fail
    -- x1 is marked
    (with_reducible refine (hmc.out w2 w6 w3.heap.size _ HB26.out (Kd.R_below HR3.out HB36.out)).mono ?_)
    rintro e w7 ⟨rfl, hb7, hk7⟩
    have HB27 : Aside0 (Below w2.heap.size w2 w7) := ⟨hb7⟩
    have HS7 : Aside0 (Kd.S (Kd.slice 3 (Kd.int .i64)) 24 w7 w3.heap.size (fun _ => True) (.slice A4 rw_.length c4) rw_) := ⟨Kd.S_mono (Kd.S_step (Kd.S_bound (Kd.S_below HS4.out HB46.out)) (fun k hk hlt => hk7.2 k hlt (by have := hk.2.1; omega))) (fun _ _ => trivial)⟩
    have hsz37 : Aside0 (w3.heap.size ≤ w7.heap.size) := ⟨Nat.le_trans HB36.out.size hk7.1⟩
    clear hb7 hk7 HS4 HB46 HB26 HB36 HB24 HB3 HB4 HR3
    go_wp2_with fail
    (with_reducible refine (heq.out _ _ _ _ _ _ _ HS7.out (Kd.S_below HS2.out HB27.out)).mono ?_)
    rintro e w8 ⟨rfl, ⟨nd2, rfl⟩⟩
    go_wp2_with fail
    -- g is marked
    (with_reducible refine (hms.out (w7.drewN nd2) w3.heap.size _ (Nat.le_trans hsz37.out (pw_below_drewN (Below.refl w7.heap.size w7) nd2).size) (Kd.S_drewN HS7.out nd2)).mono ?_)
    rintro e w8 ⟨rfl, hS8, hb8⟩
    have HS8 : Aside0 (Kd.S (Kd.slice 3 (Kd.int .i64)) 24 w8 w3.heap.size (fun _ => True) (.slice A4 rw_.length c4) mk_) := ⟨hS8⟩
    have HB28 : Aside0 (Below w2.heap.size w2 w8) := ⟨below_trans (pw_below_drewN HB27.out nd2) ⟨hb8.os, hb8.tape, hb8.output, hb8.size, fun k hk => hb8.block k (Nat.lt_of_lt_of_le hk hle23.out)⟩⟩
    clear hS8 hb8 HS7 HB27 hsz37
    go_wp2_with fail
    (with_reducible refine (hhe.out _ _ _ _ HS8.out).mono ?_)
    rintro e w9 ⟨rfl, ⟨nd3, rfl⟩⟩
    go_wp2_with fail
    -- h
    (with_reducible refine (hto.out _ (below_step HB0.out (pw_below_drewN HB28.out nd3))).mono ?_)
    rintro e w9 ⟨A9, c9, rfl, hR9, hb9⟩
    have HB89 : Aside0 (Below w8.heap.size w8 w9) := ⟨below_then (pw_below_drewN (Below.refl _ _) nd3) (Nat.le_refl _) hb9⟩
    have HR9 : Aside0 (Kd.R k64 64 w9 w.heap.size (fun _ => True) (.slice A9 tl.length c9) tl) := ⟨Kd.R_lower hR9 (below_step HB0.out (pw_below_drewN HB28.out nd3)).size⟩
    clear hR9 hb9
    go_wp2_with fail
    (with_reducible refine (him1.out _ _ _ HR9.out).mono ?_)
    rintro e w10 ⟨A10, c10, rfl, hS10, hb10⟩
    have HS10 : Aside0 (Kd.S (Kd.slice 3 (Kd.int .i64)) 24 w10 w9.heap.size (fun _ => True) (.slice A10 rw_.length c10) rw_) := ⟨hS10⟩
    have HB810 : Aside0 (Below w8.heap.size w8 w10) := ⟨below_step HB89.out hb10⟩
    clear hS10 hb10 HR9 HB89
    have HB210 : Aside0 (Below w2.heap.size w2 w10) := ⟨below_step HB28.out HB810.out⟩
    go_wp2_with fail
    (with_reducible refine (heq.out _ _ _ _ _ _ _ HS10.out (Kd.S_below HS2.out HB210.out)).mono ?_)
    rintro e w11 ⟨rfl, ⟨nd4, rfl⟩⟩
    go_wp2_with fail
    (with_reducible refine (hhe.out _ _ _ _ (Kd.S_below HS8.out (pw_below_drewN HB810.out nd4))).mono ?_)
    rintro e w11 ⟨rfl, ⟨nd5, rfl⟩⟩
    go_wp2_with fail
    go_ret
    exact ⟨rfl, pw_below_drewN (below_step HB0.out HB210.out) _⟩
end Go.Proofs.Yteeghncofacmhaa.Q
end
section
namespace Go.Proofs.Yteeghncofacmhaa.Q
open Go.RowKit Go.Proofs.YteeghncofacmhaaW.PrintWords Go.Proofs.YteeghncofacmhaaW.PrintLast Go.Proofs.YteeghncofacmhaaW.PrintMore
attribute [local go_sem] max2_int min2_int max_two min_two max_three min_three max_four min_four   -- for this text's walks alone
set_option linter.unusedVariables false
set_option linter.unusedSimpArgs false
/-! ### spec_PlaneRegions: function 21 -/
def spec_PlaneRegions.f (k : Nat) (a0 : Int) (l1 : List (S64)) : Option ((List (List Int)) × Bool) := (spec_rePlane.f k a0 l1).bind fun t101 => (if t101 = true then ((spec_reList.f a0 l1).bind fun t102 => (some (t102, true))) else (some (([] : List (List Int)), false)))
set_option maxHeartbeats 8000000 in
set_option maxRecDepth 100000 in
theorem spec_PlaneRegions.calls (k : Nat) (a0 : Int) (A1 : Option Addr) (c1 : Nat) (l1 : List (S64)) (r1 : List (List Int)) (r2 : Bool) (w : World) (hr1 : Kd.C k64 w A1 l1.length l1) (hc1 : l1.length ≤ c1) (h : spec_PlaneRegions.f k a0 l1 = some (r1, r2)) :
    Calls Try.prog 21 #[.int .i64 a0, .slice A1 l1.length c1] w fun e w' => ∃ v0_ : Value, e = .returned (.tuple #[v0_, .bool r2]) ∧ Kd.S (Kd.slice 3 (Kd.int .i64)) 24 w' w.heap.size (fun _ => True) v0_ r1 ∧ Below w.heap.size w w' := by
  have HR1 := Aside0.mk hr1
  have HC1 := Aside0.mk hc1
  clear hr1 hc1
  have HB := Aside0.mk (Below.refl w.heap.size w)
  have H : ((spec_rePlane.f k a0 l1).bind fun t101 => (if t101 = true then ((spec_reList.f a0 l1).bind fun t102 => (some (t102, true))) else (some (([] : List (List Int)), false)))) = some (r1, r2) := h
  clear h
  replace H := Option.bind_eq_some_iff.mp H
  obtain ⟨t101, A30, H⟩ := H
  replace H : (if t101 = true then ((spec_reList.f a0 l1).bind fun t102 => (some (t102, true))) else (some (([] : List (List Int)), false))) = some (r1, r2) := H
  have A3 := Aside0.mk A30
  clear A30
  by_cases c4 : t101 = true
  · subst c4
    have H1 : ((spec_reList.f a0 l1).bind fun t102 => (some (t102, true))) = some (r1, r2) := by rw [if_pos rfl] at H; exact H
    clear H
    have H := H1
    clear H1
    replace H := Option.bind_eq_some_iff.mp H
    obtain ⟨t102, A50, H⟩ := H
    replace H : (some (t102, true)) = some (r1, r2) := H
    have A5 := Aside0.mk A50
    clear A50
    simp only [Option.some.injEq, Prod.mk.injEq] at H
    obtain ⟨rfl, rfl⟩ := H
    go_enter Try.func21, Try.ntmps21
    go_wp2_with (first | ((with_reducible refine gate_callee (f := 56) rfl ?_); refine goesL_ (some 8) rfl rfl Try.func56 (by kernel_rfl) rfl #[.int .i64 a0, .slice A1 l1.length c1] rfl (by (try simp only [List.map_toArray, List.map_cons, List.map_nil]); first | done | rfl | (simp only [List.length_drop, List.length_take]; rfl)) ?_; (with_reducible refine (spec_rePlane.calls k a0 _ _ l1 true _ ?side1 ?side2 A3.out).mono ?_); (case side1 => repeat (first | exact HR1.out | (with_reducible refine Kd.C_alloc ?_ _) | (with_reducible refine Kd.C_drewN ?_ _) | (with_reducible refine Kd.C_drew ?_))); (case side2 => exact HC1.out); rintro e w6 ⟨rfl, hb⟩; refine ⟨_, rfl, ?_⟩; have n0_ := Aside0.mk (below_step (by repeat (first | (with_reducible first | exact HB.out | apply below_alloc | apply pw_below_drewN | apply below_drew1) | exact HB.out)) hb); clear HB; have HB := n0_; clear n0_; (try clear hb); (try clear hb2); (try clear hk); (try clear hi)) | ((with_reducible refine gate_callee (f := 57) rfl ?_); refine goesL_ (some 12) rfl rfl Try.func57 (by kernel_rfl) rfl #[.int .i64 a0, .slice A1 l1.length c1] rfl (by (try simp only [List.map_toArray, List.map_cons, List.map_nil]); first | done | rfl | (simp only [List.length_drop, List.length_take]; rfl)) ?_; (with_reducible refine (spec_reList.calls a0 _ _ l1 t102 _ ?side1 ?side2 A5.out).mono ?_); (case side1 => repeat (first | exact (Kd.C_below HR1.out HB.out) | (with_reducible refine Kd.C_alloc ?_ _) | (with_reducible refine Kd.C_drewN ?_ _) | (with_reducible refine Kd.C_drew ?_))); (case side2 => exact HC1.out); rintro e w7 ⟨v103, rfl, ho0, hb⟩; refine ⟨_, rfl, ?_⟩; have n0_ := Aside0.mk (Kd.S_lower ho0 (below_size (by repeat (first | (with_reducible first | exact HB.out | apply below_alloc | apply pw_below_drewN | apply below_drew1) | exact HB.out)))); have n1_ := Aside0.mk (below_step (by repeat (first | (with_reducible first | exact HB.out | apply below_alloc | apply pw_below_drewN | apply below_drew1) | exact HB.out)) hb); clear HB; have HO104 := n0_; have HB := n1_; clear n0_ n1_; (try clear hb); (try clear hb2); (try clear hk); (try clear hi); (try clear ho0)))
    go_ret2
    exact ⟨_, by first | rfl | (simp [errW_none, errW_some] <;> rfl) | (simp [*, errW_none, errW_some] <;> rfl), by (with_reducible repeat (first | apply Kd.S_alloc | apply Kd.S_drewN | apply Kd.S_drew)); exact HO104.out, by repeat (first | (with_reducible first | exact HB.out | apply below_alloc | apply pw_below_drewN | apply below_drew1) | exact HB.out)⟩
  · replace c4 := Bool.eq_false_iff.mpr c4
    subst c4
    have H1 : (some (([] : List (List Int)), false)) = some (r1, r2) := by rw [if_neg (show ¬ (false = true) by decide)] at H; exact H
    clear H
    have H := H1
    clear H1
    simp only [Option.some.injEq, Prod.mk.injEq] at H
    obtain ⟨rfl, rfl⟩ := H
    go_enter Try.func21, Try.ntmps21
    go_wp2_with (first | ((with_reducible refine gate_callee (f := 56) rfl ?_); refine goesL_ (some 8) rfl rfl Try.func56 (by kernel_rfl) rfl #[.int .i64 a0, .slice A1 l1.length c1] rfl (by (try simp only [List.map_toArray, List.map_cons, List.map_nil]); first | done | rfl | (simp only [List.length_drop, List.length_take]; rfl)) ?_; (with_reducible refine (spec_rePlane.calls k a0 _ _ l1 false _ ?side1 ?side2 A3.out).mono ?_); (case side1 => repeat (first | exact HR1.out | (with_reducible refine Kd.C_alloc ?_ _) | (with_reducible refine Kd.C_drewN ?_ _) | (with_reducible refine Kd.C_drew ?_))); (case side2 => exact HC1.out); rintro e w8 ⟨rfl, hb⟩; refine ⟨_, rfl, ?_⟩; have n0_ := Aside0.mk (below_step (by repeat (first | (with_reducible first | exact HB.out | apply below_alloc | apply pw_below_drewN | apply below_drew1) | exact HB.out)) hb); clear HB; have HB := n0_; clear n0_; (try clear hb); (try clear hb2); (try clear hk); (try clear hi)))
    go_ret2
    exact ⟨_, by first | rfl | (simp [errW_none, errW_some] <;> rfl) | (simp [*, errW_none, errW_some] <;> rfl), by first | exact Kd.S_nil _ _ _ _ _ | exact Kd.N_nil _ _ _ _ _ | exact Kd.V_nil _ _ _ _ _ | exact Kd.Q_nil _ _ _ _ _ | exact Kd.R_nil _ _ _ _ _, by repeat (first | (with_reducible first | exact HB.out | apply below_alloc | apply pw_below_drewN | apply below_drew1) | exact HB.out)⟩
end Go.Proofs.Yteeghncofacmhaa.Q
end
section
/- PlaneRegions: both sides tell the same; the law is true. -/
namespace Go.Proofs.Yteeghncofacmhaa.Q
open Go.RowKit Go.Proofs.YteeghncofacmhaaW.PrintWords Go.Proofs.YteeghncofacmhaaW.PrintLast Go.Proofs.YteeghncofacmhaaW.PrintMore
set_option linter.unusedVariables false
set_option linter.unusedSimpArgs false
theorem cnt_le {m : Nat} : ∀ {rs : List (List Int)}, (∀ r ∈ rs, r.length ≤ m) → cnt rs ≤ rs.length * m
  | [], _ => by simp [cnt]
  | r :: rs, h => by
    rw [cnt_cons, List.length_cons, Nat.add_mul, Nat.one_mul]
    have := h r (by simp)
    have := cnt_le (fun x hx => h x (List.mem_cons_of_mem _ hx))
    omega
theorem facesRes_cnt (n : Int) (l : List Ch) : cnt (facesRes n l).1 ≤ 1000000 ∧ (facesRes n l).1.length ≤ 1000000 := by
  unfold facesRes
  cases h : plane n l with
  | false => rw [if_neg (by simp)]; simp [cnt]
  | true =>
    rw [if_pos rfl, regs_points h]
    have h1 := cnt_le (faces_small h)
    have := good_len (plane_good h)
    show cnt (faces n l) ≤ 1000000 ∧ (faces n l).length ≤ 1000000
    rw [faces_length] at h1 ⊢
    constructor
    · have : (l.length + 1) * 100 ≤ 41 * 100 := Nat.mul_le_mul_right _ (by omega)
      omega
    · omega
theorem specPlane_ev (n : Int) (l : List Ch) (hl : l.length ≤ 1048576) : Ev (fun k => spec_PlaneRegions.f k n l) (facesRes n l) := by
  unfold spec_PlaneRegions.f facesRes
  refine Ev.bind (rePlane_ev n l (by omega)) ?_
  cases h : plane n l with
  | false => exact Ev.congr (fun k => by simp) (Ev.now _)
  | true => exact Ev.congr (fun k => by rw [if_pos rfl, reList_eq h, Option.bind_some]) (ev_eq (Ev.now _) (by rw [if_pos rfl, regs_points h]))
theorem FnExactPlaneRegions_true (a0 : Int) (A : Option Addr) (c : Nat) (l : List S66) (w : World) (hr : Kd.C k66 w A l.length l) (hc : l.length ≤ c) (hw : ∀ c ∈ l, (Lit.int .i64 c.f0).wf = true ∧ (Lit.int .i64 c.f1).wf = true) :
    Calls Try.prog 5 #[.int .i64 a0, .slice A l.length c] w fun e w' => e = .returned (.bool true) ∧ Below w.heap.size w w' := by
  refine FnExactPlaneRegions_walk (fun n l => (facesRes n l).1) (fun n l => (facesRes n l).2) facesRes_cnt (fun a0 A c l W hC hc hl => ?_) (fun a0 A c l W hC hc hl => planeR_calls a0 A c l W hC hc (by omega)) a0 A c l w hr hc
  obtain ⟨k, hk⟩ := specPlane_ev a0 l hl
  exact spec_PlaneRegions.calls k a0 A c l _ _ W hC hc (hk k (Nat.le_refl _))
end Go.Proofs.Yteeghncofacmhaa.Q
end
section
/- The row of FnExactPlaneRegions, lifted from its walk; no condition. -/
namespace Go.Proofs.Yteeghncofacmhaa.fnExactPlaneRegions
open Go.ChangeShapes Go.WideShapes Go.ChangeAt Go.RowKit
set_option linter.unusedVariables false
theorem own : ownKnob Try.prog.godebug = none := by kernel_rfl
theorem laidOut : laidOutB Try.prog = true := by kernel_rfl
set_option maxRecDepth 100000 in
theorem lifted (os : Os) (started : os.Started) (H : Type) (enc : TypeId × Value → H) :
    ReturnsInHanded {} Try.checked os 5 .any (Rows.fnExactPlaneRegionsSpec.pre6 enc Try.prog Try.f5 Rows.fnExactPlaneRegionsRow.domain false) (Rows.fnExactPlaneRegionsSpec.post enc Try.prog Try.f5 false true false false) := by
  refine returnsInHanded_of_change_sized (C := Try.checked) own started (by kernel_rfl) Try.func5
    (ChangeSpec.witness6 (enc := enc) (C := Try.checked) false ⟨#[], #[.int .i64 0, .slice none 0 0], []⟩ 8 (by kernel_rfl) (by kernel_rfl) (by kernel_rfl) (by kernel_rfl)) ?_
  intro W base args ds gs before hval0 hW hcnd hsz0 _
  have hval : ∀ (j : Nat) t v, Try.f5.params[j]? = some t → args[j]? = some v → Value.okWide Try.prog W .any base t v := hval0
  have hW' := hW
  obtain ⟨p, q, hA0, hV, rfl, hfz, hnd⟩ := hW
  have hA : DataW.TrodAll enc Try.prog W 0 (fun _ => true) true Try.f5.params.toList args.toList ds p := hA0
  rw [Try.params5] at hA hval
  obtain ⟨v0, vs0, d0, ds0, p0, q0, hargs, rfl, rfl, h0, r0⟩ := trodAll_cons hA
  obtain ⟨v1, vs1, d1, ds1, p1, q1, rfl, rfl, rfl, h1, r1⟩ := trodAll_cons r0
  obtain ⟨rfl, rfl, rfl⟩ := trodAll_nil r1
  obtain rfl : args = #[v0, v1] := by cases args; simp_all
  obtain ⟨rfl, rfl⟩ := trodVars_none hV
  obtain ⟨i0, rfl⟩ := okWide_int Try.underlying3 (hval 0 3 v0 rfl rfl)
  obtain ⟨a1, len1, cap1, rfl⟩ := okWide_slice Try.underlying22 (hval 1 22 v1 rfl rfl)
  have k0 := h0
  have lt0 : ∀ x ∈ p0, x.block < W.heap.size := by obtain ⟨m, hm⟩ := k0; exact DataW.trod_lt m _ _ _ hm
  have k1 := h1
  have lt1 : ∀ x ∈ p1, x.block < W.heap.size := by obtain ⟨m, hm⟩ := k1; exact DataW.trod_lt m _ _ _ hm
  obtain ⟨l, rfl, hcap, hC, hwf⟩ := Q.chords_of_trod h1
  clear hA0 hval0 hsz0
  refine (Q.FnExactPlaneRegions_true i0 a1 cap1 l W hC hcap hwf).mono fun e W' ⟨he, bel⟩ => ?_
  subst he
  exact ⟨_, rfl, _, _, _, [], _, [], hW', trodAll_mk1 (shut_bool Try.underlying4 _), (trodAll_cons_mk (Below.trod laidOut (by kernel_rfl) (of_decide_eq_true (by kernel_rfl)) k0 bel lt0) (trodAll_cons_mk (Below.trod laidOut (by kernel_rfl) (of_decide_eq_true (by kernel_rfl)) k1 bel lt1) trodAll_mk0)), rfl, bel.frame _, fun h => by cases h⟩
theorem over : Rows.fnExactPlaneRegionsRow.holds Try.pinned (OpenSpec.ofChange Rows.fnExactPlaneRegionsSpec) :=
  OpenClaim.holds_of_wide 5 Try.f5 rfl rfl rfl rfl rfl rfl rfl ⟨rfl, rfl, rfl, rfl, rfl⟩ rfl rfl rfl rfl rfl (by kernel_rfl) Try.func5 (by kernel_rfl)
    (of_decide_eq_true (by kernel_rfl)) (by unfold Func.isWrapper; first | (rw [if_pos (by decide +kernel)]; kernel_rfl) | (rw [if_neg (by decide +kernel)]; exact ⟨rfl, rfl⟩))
    (fun os started H enc _ => lifted os started H enc)
theorem proved : Rows.FnExactPlaneRegionsSaid := over
end Go.Proofs.Yteeghncofacmhaa.fnExactPlaneRegions
namespace Go.Proofs.Yteeghncofacmhaa
/-- The row, under a short name, for the claim. -/
theorem fnExactPlaneRegions_holds : Rows.FnExactPlaneRegionsSaid := fnExactPlaneRegions.proved
end Go.Proofs.Yteeghncofacmhaa
end
#print axioms Go.Proofs.Yteeghncofacmhaa.fnExactPlaneRegions_holds
