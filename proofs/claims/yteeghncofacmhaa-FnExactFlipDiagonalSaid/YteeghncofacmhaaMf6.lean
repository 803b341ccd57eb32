/- The proof of FnExactFlipDiagonal, part 7 of 7; no condition: the statement as it is given. Merged by pack.py out of this session's texts. -/
import Derived.StillTailTactics
import Derived.Test.YteeghncofacmhaaRows
import Derived.WalkKit
import Derived.ProofKit
import Derived.OpenShut
import Derived.ChangeOld
import Derived.Below
import Derived.SizedLaws
import Derived.Test.YteeghncofacmhaaMf4
import Derived.Test.YteeghncofacmhaaMf2
import Derived.Test.YteeghncofacmhaaMf3
import Derived.Test.YteeghncofacmhaaMf5
import Derived.Test.YteeghncofacmhaaMf0
section
/- spec.FlipDiagonal by hand. -/
namespace Go.Proofs.Yteeghncofacmhaa.Q
open Go.RowKit Go.Proofs.YteeghncofacmhaaW.PrintWords Go.Proofs.YteeghncofacmhaaW.PrintLast Go.Proofs.YteeghncofacmhaaW.PrintMore
attribute [local go_sem] max2_int min2_int max_two min_two max_three min_three max_four min_four
set_option linter.unusedVariables false
set_option linter.unusedSimpArgs false
attribute [local go_sem high] eqA64
/-- 'xs[m:]' of a row, the capacity's case aside. -/
theorem cut_rowS {P : Program} (t e : TypeId) {i : TypeInfo} (s : Nat) (ht : P.underlying t = some (.slice e)) (hi : P.info? e = some i) (hsz : i.size = s) (A : Option Addr) (n c m : Nat) (z : Int) (hz : z = (m : Int)) (hm : m ≤ n) (hc : n ≤ c) :
    ∃ A' : Option Addr, (∀ W : World, (Instr.slice t (.slice A n c) (some (.int .i64 z)) none none).run P W = .ok (.slice A' (n - m) (c - m)) W) ∧
      ∀ {α : Type} (d : Kd α) (W : World) (xs : List α), d.sz = s → d.C W A n xs → d.C W A' (n - m) (xs.drop m) := by
  subst hz
  refine ⟨if c = m then A else A.map (·.add (m * s)), fun W => ?_, fun d W xs hd h => ?_⟩
  · have hel : P.elem t = e := by simp [Program.elem, ht]
    have hu : P.underlying t = some (.slice (P.elem t)) := by rw [hel]; exact ht
    rw [run_slice_l W t A n c hu .i64 (m : Int) (Int.natCast_nonneg _) (by omega), hel]
    simp [sizeOf, typeInfo, hi, hsz, sliced, Result.andThen]
  · have hn : xs.length = n := h.1
    subst hn
    have := Kd.C_drop h hm hc
    rw [hd] at this
    rwa [List.length_drop] at this
theorem take_cutS {P : Program} (t e : TypeId) {i : TypeInfo} (ht : P.underlying t = some (.slice e)) (hi : P.info? e = some i) (A : Option Addr) (n c m : Nat) (z : Int) (hz : z = (m : Int)) (hm : m ≤ c) :
    ∀ W : World, (Instr.slice t (.slice A n c) none (some (.int .i64 z)) none).run P W = .ok (.slice A m c) W := by
  subst hz
  intro W
  have hel : P.elem t = e := by simp [Program.elem, ht]
  have hu : P.underlying t = some (.slice (P.elem t)) := by rw [hel]; exact ht
  rw [run_slice_h W t A n c hu .i64 (m : Int) (Int.natCast_nonneg _) (by omega), hel]
  cases A <;> simp [sizeOf, typeInfo, hi, sliced, Result.andThen, Addr.add]
def spec_FlipDiagonal.T3 : Bool × List (List Nat × List Nat) := (true, [([], []), ([], []), ([], []), ([1, 2], [1, 2]), ([0, 3], [0, 3]), ([], []), ([], []), ([6], [6]), ([5, 7], [5, 7]), ([4, 8, 4], [4, 8]), ([9, 9, 0, 1, 2, 3, 4, 5, 6, 7, 8, 9], [9])])
def spec_FlipDiagonal.B3 : List Nat := [0, 0, 0, 6, 15, 0, 0, 64, 224, 511, 1023]
theorem spec_FlipDiagonal.tab3 : rtab .any (opsOf Try.f26 3) = spec_FlipDiagonal.T3 := by kernel_rfl
theorem spec_FlipDiagonal.bits3 : waitsOk spec_FlipDiagonal.T3.2 spec_FlipDiagonal.B3 = true := by kernel_rfl
def spec_FlipDiagonal.T8 : Bool × List (List Nat × List Nat) := (true, [([], []), ([0], [0]), ([1], [1]), ([], []), ([3], [3]), ([4], [4]), ([2, 5], [2, 5]), ([], []), ([7, 6, 0, 1, 2, 3, 4, 5, 6, 7], [6, 7])])
def spec_FlipDiagonal.B8 : List Nat := [0, 1, 3, 0, 8, 24, 63, 0, 255]
theorem spec_FlipDiagonal.tab8 : rtab .any (opsOf Try.f26 8) = spec_FlipDiagonal.T8 := by kernel_rfl
theorem spec_FlipDiagonal.bits8 : waitsOk spec_FlipDiagonal.T8.2 spec_FlipDiagonal.B8 = true := by kernel_rfl
theorem spot_none {W : World} {ad : Addr} {v : Value} (h : W.cell? (ad.add (Int.toNat 0)) = some v) : ad = ⟨ad.block, ad.off, none⟩ := by
  have e0 : ad.add (Int.toNat 0) = ad := by simp [Addr.add]
  rw [e0] at h
  obtain ⟨b, o, s⟩ := ad
  unfold World.cell? at h
  split at h
  · split at h
    · cases h
    · rename_i hs
      have : s = none := by simpa using hs
      rw [this]
  · cases h
theorem cell_at0 {W : World} {ad : Addr} {n : Nat} {x : Int} {xs : List Int} (h : Kd.C (Kd.int .i64) W (some ad) n (x :: xs)) : W.cell? ⟨ad.block, ad.off, none⟩ = some (.int .i64 x) := by
  obtain ⟨ad', ea, hx⟩ := Kd.at_int h 0 (by omega) (by have := h.1; simp at this; omega)
  cases ea
  have e := spot_none hx
  rw [← e]
  have e0 : ad.add (Int.toNat 0) = ad := by simp [Addr.add]
  rw [e0] at hx
  exact hx
set_option maxHeartbeats 8000000 in
set_option maxRecDepth 100000 in
theorem specFlip_true (a0 : Int) (A : Option Addr) (c : Nat) (l : List Ch) (k : Int) (w : World) (hr : Kd.C k64 w A l.length l) (hc : l.length ≤ c) (hk0 : 0 ≤ k) (hk1 : k < l.length) (hl40 : l.length ≤ 40) (k1 k2 : Nat) (hgood : spec_cdGood.f k1 a0 l = some true) (htri : spec_reTriangled.f k2 a0 l = some true)
    (rest : List Ch) (hrest : rest = l.take k.toNat ++ l.drop (k.toNat + 1)) (F : List (List Int)) (hF : spec_reList.f a0 rest = some F) (hFs : ∀ x ∈ F, x.length ≤ 1000) (hFn : F.length ≤ 1000)
    (d : Ch) (hd : rd_T64 l k = d) (X : List Int) (hX : X ∈ F) (hhit : X.contains d.f0 = true ∧ X.contains d.f1 = true) (r0 r1 r2 r3 : Int) (hX4 : X = [r0, r1, r2, r3]) (honly : ∀ Y ∈ F, Y.contains d.f0 = true → Y.contains d.f1 = true → Y = X)
    (c' : Ch) (hc' : c' = if (⟨r0, r2⟩ : Ch) = d then ⟨r1, r3⟩ else ⟨r0, r2⟩) (res : List Ch) (k3 : Nat) (hput : spec_srPut.f k3 rest c'.f0 c'.f1 = some res) :
    Calls Try.prog 26 #[.int .i64 a0, .slice A l.length c, .int .i64 k] w fun e w' => ∃ v0_ : Value, e = .returned (.tuple #[v0_, .bool true]) ∧ Kd.R k64 64 w' w.heap.size (fun _ => True) v0_ res ∧ Below w.heap.size w w' := by
  have h67 := spec_cdGood.calls k1 a0 A c l true w hr hc hgood
  have h68 := fun W hW => spec_reTriangled.calls k2 a0 A c l true W (Kd.C_below hr hW) hc htri
  have h61 := fun W => spec_l1In.calls k 0 ((l.length : Int) - 1) true W (by rw [l1In_eq]; congr 1; rw [decide_eq_true_iff]; omega)
  obtain ⟨m, rfl⟩ : ∃ m : Nat, k = (m : Int) := ⟨k.toNat, by omega⟩
  rw [Int.toNat_natCast] at hrest
  have hsub : IntKind.i64.wrap ((l.length : Int) - 1) = (l.length : Int) - 1 := by rw [i64_w, w64s (by omega) (by omega)]
  have hadd : IntKind.i64.wrap ((m : Int) + 1) = ((m + 1 : Nat) : Int) := by rw [i64_w, w64s (by omega) (by omega)]; omega
  have hadd2 : wrap64 ((m : Int) + 1) = ((m + 1 : Nat) : Int) := by rw [w64s (by omega) (by omega)]; omega
  obtain ⟨i0, hi, hz0, hz1, hz2⟩ := info_parts info64
  have htake := take_cutS (P := Try.prog) 27 64 Try.underlying27 hi A l.length c m (m : Int) rfl (by omega)
  obtain ⟨AD, hcut, hAD⟩ := cut_rowS (P := Try.prog) 27 64 2 Try.underlying27 hi hz1 A l.length c (m + 1) ((m + 1 : Nat) : Int) rfl (by omega) hc
  have hu := Try.underlying27
  have hu2 := Try.underlying64
  have HC := Aside0.mk hr
  have Hc := Aside0.mk hc
  have Hm : Aside0 (m < l.length) := ⟨by omega⟩
  have Hl := Aside0.mk hl40
  replace h67 := Aside0.mk h67
  replace h68 := Aside0.mk h68
  replace h61 := Aside0.mk h61
  replace hAD := Aside0.mk (fun W => hAD k64 W l rfl)
  replace hrest := Aside0.mk hrest
  replace hF := Aside0.mk hF
  replace hFs := Aside0.mk hFs
  replace hFn := Aside0.mk hFn
  replace hd := Aside0.mk hd
  replace hX := Aside0.mk hX
  replace hhit := Aside0.mk hhit
  replace hX4 := Aside0.mk hX4
  replace honly := Aside0.mk honly
  replace hc' := Aside0.mk hc'
  replace hput := Aside0.mk hput
  have p1 := eq_true hk0
  have q1 := eq_true hk1
  have q2 : decide ((m : Int) < (l.length : Int)) = true := decide_eq_true hk1
  have q3 : m < l.length := Hm.out
  clear hr hc hk0 hk1 hgood htri hi hz0 hz1 hz2 hl40
  generalize hmm : (m : Int) = mm at hsub hadd hadd2 htake hd p1 q1 q2 h61
  generalize hm1 : ((m + 1 : Nat) : Int) = mm1 at hadd hadd2 hcut
  replace hmm := Aside0.mk hmm
  replace hm1 := Aside0.mk hm1
  go_enter Try.func26, Try.ntmps26
  go_wp2_with fail
  (with_reducible refine h67.out.mono ?_)
  rintro e w1 ⟨rfl, hb1⟩
  have HB1 := Aside0.mk hb1
  clear hb1
  go_wp2_with fail
  (with_reducible refine (h68.out w1 HB1.out).mono ?_)
  rintro e w2 ⟨rfl, hb2⟩
  have HB2 : Aside0 (Below w.heap.size w w2) := ⟨below_step HB1.out hb2⟩
  clear hb2
  go_wp2_with fail
  (with_reducible refine (h61.out w2).mono ?_)
  rintro e w3 ⟨rfl, ⟨nd, rfl⟩⟩
  have HB3 : Aside0 (Below w.heap.size w (w2.drewN nd)) := ⟨pw_below_drewN HB2.out nd⟩
  generalize (w2.drewN nd) = w3 at HB3 ⊢
  clear HB1 HB2
  go_wp2_with fail
  refine start_ (n := 11) (S := fun w' => True) (ds := []) #[false, false, false, false, false, false, false, false, false, false, false] (by kernel_rfl) rfl rfl trivial (fun hHeld => ?_)
  refine with_tabW spec_FlipDiagonal.tab3 spec_FlipDiagonal.bits3 (fun HT_ HW_ => ?_)
  have HB4 : Aside0 (Below w.heap.size w w3.drew) := ⟨below_drew HB3.out⟩
  generalize w3.drew = w4 at HB4 ⊢
  have hO0 : Kd.R k64 64 (w4.alloc (.cells #[] 64)) w4.heap.size (fun _ => True) (.slice (some ⟨w4.heap.size, 0, none⟩) 0 0) [] := ⟨fun _ _ => trivial, [], World.ownsRow_lit w4 #[] 0 (Nat.le_refl _) (by decide) rfl, Reps.none _ _⟩
  have hB5 : Below w4.heap.size w4 (w4.alloc (.cells #[] 64)) := below_alloc (Below.refl _ _) _
  refine pure_ (i := 1) (N := some 31) (v := ?_) (a' := ?_) #[false, true, false, false, false, false, false, false, false, false, false] rfl rfl (any_of HT_.out (by kernel_rfl)) (fun _ _ _ h => h) (Or.inl ⟨by rfl, ?_⟩) ?_ ?_
  rotate_left
  · intro w'
    go_simp
    with_reducible rfl
  rotate_left
  · simp only [Act.put, List.setIfInBounds_toArray, List.set_cons_zero, List.set_cons_succ, i64_w, i32_w]
    rfl
  refine pure_ (i := 2) (N := some 32) (v := ?_) (a' := ?_) #[false, true, true, false, false, false, false, false, false, false, false] rfl rfl (any_of HT_.out (by kernel_rfl)) (fun _ _ _ h => h) (Or.inl ⟨by rfl, ?_⟩) ?_ ?_
  rotate_left
  · intro w'
    go_simp
    with_reducible rfl
  rotate_left
  · simp only [Act.put, List.setIfInBounds_toArray, List.set_cons_zero, List.set_cons_succ, i64_w, i32_w]
    rfl
  refine pure_ (i := 3) (N := some 33) (v := ?_) (a' := ?_) #[false, true, true, true, false, false, false, false, false, false, false] rfl rfl (any_of HT_.out (by kernel_rfl)) (fun _ _ _ h => h) (Or.inl ⟨by rfl, ?_⟩) ?_ ?_
  rotate_left
  · intro w'
    go_simp
    with_reducible rfl
  rotate_left
  · simp only [Act.put, List.setIfInBounds_toArray, List.set_cons_zero, List.set_cons_succ, i64_w, i32_w]
    rfl
  refine pure_ (i := 5) (N := some 35) (v := ?_) (a' := ?_) #[false, true, true, true, false, true, false, false, false, false, false] rfl rfl (any_of HT_.out (by kernel_rfl)) (fun _ _ _ h => h) (Or.inl ⟨by rfl, ?_⟩) ?_ ?_
  rotate_left
  · intro w'
    go_simp
    with_reducible rfl
  rotate_left
  · simp only [Act.put, List.setIfInBounds_toArray, List.set_cons_zero, List.set_cons_succ, i64_w, i32_w]
    rfl
  refine pure_ (i := 6) (N := some 36) (v := ?_) (a' := ?_) #[false, true, true, true, false, true, true, false, false, false, false] rfl rfl (any_of HT_.out (by kernel_rfl)) (fun _ _ _ h => h) (Or.inl ⟨by rfl, ?_⟩) ?_ ?_
  rotate_left
  · intro w'
    go_simp
    with_reducible rfl
  rotate_left
  · simp only [Act.put, List.setIfInBounds_toArray, List.set_cons_zero, List.set_cons_succ, i64_w, i32_w]
    rfl
  refine pure_ (i := 7) (N := some 37) (v := ?_) (a' := ?_) #[false, true, true, true, false, true, true, true, false, false, false] rfl rfl (any_of HT_.out (by kernel_rfl)) (fun _ _ _ h => h) (Or.inl ⟨by rfl, ?_⟩) ?_ ?_
  rotate_left
  · intro w'
    go_simp
    with_reducible rfl
  rotate_left
  · simp only [Act.put, List.setIfInBounds_toArray, List.set_cons_zero, List.set_cons_succ, i64_w, i32_w]
    rfl
  refine pure_ (i := 8) (N := some 38) (v := ?_) (a' := ?_) #[false, true, true, true, false, true, true, true, true, false, false] rfl rfl (any_of HT_.out (by kernel_rfl)) (fun _ _ _ h => h) (Or.inl ⟨by rfl, ?_⟩) ?_ ?_
  rotate_left
  · intro w'
    go_simp
    with_reducible rfl
  rotate_left
  · simp only [Act.put, List.setIfInBounds_toArray, List.set_cons_zero, List.set_cons_succ, i64_w, i32_w]
    rfl
  refine one_ (i := 0) (N := some 30) #[true, true, true, true, false, true, true, true, true, false, false] rfl rfl (one_of HT_.out (by kernel_rfl)) (by decide) (fun K hK => ?_)
  refine event_step (v := .slice (some ⟨w4.heap.size, 0, none⟩) 0 0) (w1 := w4.alloc (.cells #[] 64)) rfl (by first | (go_simp; done) | (go_simp; rfl)) ?_
  refine hK.out _ _ trivial (fun hHeld => ?_)
  clear hK K
  refine norm_ (a' := ?_) ?_ ?_
  rotate_left
  · show Act.put _ (some 30) _ = _
    simp only [Act.put, List.setIfInBounds_toArray, List.set_cons_zero, List.set_cons_succ, i64_w, i32_w]
    rfl
  generalize hgw : (w4.alloc (.cells #[] 64)) = w5 at hO0 hB5 ⊢
  clear hgw
  have HO0 := Aside0.mk hO0
  have HB5 := Aside0.mk hB5
  clear hO0 hB5
  refine one_ (i := 4) (N := some 34) #[true, true, true, true, true, true, true, true, true, false, false] rfl rfl (one_of HT_.out (by kernel_rfl)) (by decide) (fun K hK => ?_)
  refine Kd.R_append_rows_step k64 (w0 := w4) w4.heap.size (by rfl) (.tmp 30) (.tmp 33) 27 64 (.agg #[(.int .i64 0), (.int .i64 0)]) 16 rfl Try.underlying27 info64 rfl (by decide) (by decide) _ [] (l.take m) _ _ _ (fun _ => True) (fun _ => False) rfl rfl HO0.out (take_row k64 (Kd.C_below HC.out (below_step HB4.out HB5.out)) (by have := Hm.out; omega)) (fun _ _ h => h) (fun _ h => h.elim) (fun _ _ => trivial) HB5.out HB5.out.size (by have := Hl.out; have := Hm.out; simp; omega) ?_
  intro v71 w6 ho_ hb_ hg_ ha_
  have HO71 := Aside0.mk ho_
  have HB71b := Aside0.mk hb_
  clear ho_ hb_ hg_ ha_
  refine hK.out _ _ trivial (fun hHeld => ?_)
  clear hK K
  refine norm_ (a' := ?_) ?_ ?_
  rotate_left
  · show Act.put _ (some 34) _ = _
    simp only [Act.put, List.setIfInBounds_toArray, List.set_cons_zero, List.set_cons_succ, i64_w, i32_w]
    rfl
  refine one_ (i := 9) (N := some 39) #[true, true, true, true, true, true, true, true, true, true, false] rfl rfl (one_of HT_.out (by kernel_rfl)) (by decide) (fun K hK => ?_)
  refine Kd.R_append_rows_step k64 (w0 := w4) w4.heap.size (by rfl) (.tmp 34) (.tmp 38) 27 64 (.agg #[(.int .i64 0), (.int .i64 0)]) 16 rfl Try.underlying27 info64 rfl (by decide) (by decide) _ _ (l.drop (m + 1)) _ _ _ (fun _ => True) (fun _ => False) rfl rfl HO71.out (hAD.out _ (Kd.C_below HC.out (below_step HB4.out HB71b.out))) (fun _ _ h => h) (fun _ h => h.elim) (fun _ _ => trivial) HB71b.out HB71b.out.size (by have := Hl.out; have := Hm.out; simp; omega) ?_
  intro v72 w7 ho_ hb_ hg_ ha_
  have HO72 := Aside0.mk ho_
  have HB72b := Aside0.mk hb_
  clear ho_ hb_ hg_ ha_
  refine hK.out _ _ trivial (fun hHeld => ?_)
  clear hK K
  refine norm_ (a' := ?_) ?_ ?_
  rotate_left
  · show Act.put _ (some 39) _ = _
    simp only [Act.put, List.setIfInBounds_toArray, List.set_cons_zero, List.set_cons_succ, i64_w, i32_w]
    rfl
  refine pure_ (i := 10) (N := some 8) (v := ?_) (a' := ?_) #[true, true, true, true, true, true, true, true, true, true, true] rfl rfl (any_of HT_.out (by kernel_rfl)) (fun _ _ _ h => h) (Or.inl ⟨by rfl, ?_⟩) ?_ ?_
  rotate_left
  · intro w'
    go_simp
    with_reducible rfl
  rotate_left
  · simp only [Act.put, List.setIfInBounds_toArray, List.set_cons_zero, List.set_cons_succ, i64_w, i32_w]
    rfl
  refine done_ (done_of HT_.out (by kernel_rfl)) ?_
  have hR8 : Kd.R k64 64 w7 w4.heap.size (fun _ => True) v72 rest := by rw [hrest.out]; exact HO72.out
  obtain ⟨A8, c8, rfl⟩ := Kd.R_slice hR8
  have HB7 : Aside0 (Below w.heap.size w w7) := ⟨below_step HB4.out HB72b.out⟩
  have hR8r := Kd.R_reads' hR8
  have h57 := Aside0.mk (spec_reList.calls a0 A8 c8 rest F w7 hR8r.2.2 hR8r.2.1 hF.out)
  have HR8 : Aside0 (Kd.R k64 64 w7 w.heap.size (fun _ => True) (.slice A8 rest.length c8) rest) := ⟨Kd.R_lower hR8 HB4.out.size⟩
  clear hR8 hR8r HO72 HO71 HO0 HB72b HB71b HB5 htake hcut
  go_wp2_with fail
  (with_reducible refine h57.out.mono ?_)
  rintro e w8 ⟨v9, rfl, hS9, hb9⟩
  obtain ⟨A9, c9, rfl, hl9, hC9⟩ := Kd.S_reads hS9
  have HC9 := Aside0.mk hC9
  have HB8 : Aside0 (Below w.heap.size w w8) := ⟨below_step HB7.out hb9⟩
  have HR9 := Aside0.mk (Kd.R_below HR8.out hb9)
  clear hS9 hC9 hb9 hl9
  go_wp2_with fail
  go_loopw [44] (fun v44 wr => ∃ (j : Nat), v44 = .int .i64 (j : Int) ∧ Aside0 (j ≤ F.length) ∧ Aside0 (∀ i : Nat, i < j → ¬ ((rd_L4 F (i : Int)).contains d.f0 = true ∧ (rd_L4 F (i : Int)).contains d.f1 = true)) ∧ Aside0 (Below w8.heap.size w8 wr)) (fun v44 _ => F.length - (intOf v44).toNat)
  case atStart => exact ⟨0, rfl, ⟨Nat.zero_le _⟩, ⟨fun i hi => by omega⟩, ⟨Below.refl _ _⟩⟩
  case round =>
    obtain ⟨j, rfl, hj, hno, HB⟩ := hrel
    replace hj := hj.out
    obtain ⟨wi, rfl⟩ : ∃ wi : World, wi = wr := ⟨_, rfl⟩
    by_cases hlt : j < F.length
    · have hl : decide ((j : Int) < (F.length : Int)) = true := decide_eq_true (by omega)
      obtain ⟨ad, A0, c0, ea, hx0, hl0, hC0⟩ := at_L4 HC9.out (j : Int) (by omega) (by omega)
      cases ea
      replace hx0 := (HB.out.cell (World.block_lt_of_cell? w8 _ hx0)).trans hx0
      rw [Int.toNat_natCast] at hx0
      obtain ⟨adl, ea, hz0, hz1⟩ := at_T64 (Kd.C_below HC.out (below_step HB8.out HB.out)) mm (by have := hmm.out; omega) (by have := hmm.out; have := Hm.out; omega)
      cases ea
      rw [hd.out] at hz0 hz1
      have hYF : rd_L4 F (j : Int) ∈ F := by rw [rdL4_at hlt]; exact List.getElem_mem hlt
      have hYs := hFs.out _ hYF
      have honY := honly.out _ hYF
      have hnx : ¬ ((rd_L4 F (j : Int)).contains d.f0 = true ∧ (rd_L4 F (j : Int)).contains d.f1 = true) → Aside0 (∀ i : Nat, i < j + 1 → ¬ ((rd_L4 F (i : Int)).contains d.f0 = true ∧ (rd_L4 F (i : Int)).contains d.f1 = true)) := fun h => ⟨fun i hi => by
        rcases Nat.lt_or_ge i j with hij | hij
        · exact hno.out i hij
        · rw [show i = j by omega]; exact h⟩
      have hwj : wrap64 ((j : Int) + 1) = ((j + 1 : Nat) : Int) := by have := hFn.out; rw [w64s (by omega) (by omega)]; omega
      have HC0 := Aside0.mk (Kd.C_below hC0 HB.out)
      have HL0 := Aside0.mk hl0
      generalize rd_L4 F (j : Int) = Y at hx0 HC0 HL0 hYs honY hnx
      replace hnx := Aside0.mk hnx
      have hlt' := Aside0.mk hlt
      replace hwj := Aside0.mk hwj
      have honY := Aside0.mk honY
      clear hC0 hl0 hYF hno
      have hcA : ∀ W', Below wi.heap.size wi W' → Calls Try.prog 69 #[.slice A0 Y.length c0, .int .i64 d.f0] W' fun e w' => e = .returned (.bool (Y.contains d.f0)) ∧ Drawn0 W' w' := fun W' hW => spec_l1Has.calls (Y.length + 1) A0 c0 Y d.f0 _ W' (Kd.C_below HC0.out hW) HL0.out (l1Has_ev Y d.f0 (by omega))
      have hcB : ∀ W', Below wi.heap.size wi W' → Calls Try.prog 69 #[.slice A0 Y.length c0, .int .i64 d.f1] W' fun e w' => e = .returned (.bool (Y.contains d.f1)) ∧ Drawn0 W' w' := fun W' hW => spec_l1Has.calls (Y.length + 1) A0 c0 Y d.f1 _ W' (Kd.C_below HC0.out hW) HL0.out (l1Has_ev Y d.f1 (by omega))
      clear hYs
      by_cases h4 : Y.length = 4
      · have h4b : ((Y.length : Int) != 4) = false := by simp; omega
        cases hA : Y.contains d.f0 with
        | false =>
          rw [hA] at hcA
          have hn2 := hnx.out (fun h => by rw [hA] at h; exact absurd h.1 (by decide))
          replace hA := Aside0.mk hA
          replace hcA := Aside0.mk hcA
          replace hcB := Aside0.mk hcB
          clear h4
          go_wp2_with fail
          (with_reducible refine (hcA.out wi (Below.refl _ _)).mono ?_)
          rintro e w' ⟨rfl, ⟨nd1, rfl⟩⟩
          have HBn : Aside0 (Below w8.heap.size w8 (wi.drewN nd1)) := ⟨pw_below_drewN HB.out nd1⟩
          generalize (wi.drewN nd1) = wj at HBn ⊢
          clear hx0 hz0 hz1
          go_wp2_with fail
          go_roundw
          case rel => exact ⟨j + 1, by rw [hwj.out], ⟨by have := hlt'.out; omega⟩, hn2, HBn⟩
          case measure => rw [hwj.out]; have := hlt'.out; simp [intOf]; omega
        | true =>
          rw [hA] at hcA
          cases hB2 : Y.contains d.f1 with
          | false =>
            rw [hB2] at hcB
            have hn2 := hnx.out (fun h => by rw [hB2] at h; exact absurd h.2 (by decide))
            replace hA := Aside0.mk hA
            replace hB2 := Aside0.mk hB2
            replace hcA := Aside0.mk hcA
            replace hcB := Aside0.mk hcB
            clear h4
            go_wp2_with fail
            (with_reducible refine (hcA.out wi (Below.refl _ _)).mono ?_)
            rintro e w' ⟨rfl, ⟨nd1, rfl⟩⟩
            have hz1' : (wi.drewN nd1).cell? _ = _ := hz1
            have HBi : Aside0 (Below wi.heap.size wi (wi.drewN nd1)) := ⟨pw_below_drewN (Below.refl _ _) nd1⟩
            generalize (wi.drewN nd1) = wj at HBi hz1' ⊢
            clear hx0 hz0 hz1
            go_wp2_with fail
            (with_reducible refine (hcB.out wj HBi.out).mono ?_)
            rintro e w' ⟨rfl, ⟨nd2, rfl⟩⟩
            have HBn : Aside0 (Below w8.heap.size w8 (wj.drewN nd2)) := ⟨pw_below_drewN (below_then HB.out HB.out.size HBi.out) nd2⟩
            generalize (wj.drewN nd2) = wk at HBn ⊢
            clear hz1'
            go_wp2_with fail
            go_roundw
            case rel => exact ⟨j + 1, by rw [hwj.out], ⟨by have := hlt'.out; omega⟩, hn2, HBn⟩
            case measure => rw [hwj.out]; have := hlt'.out; simp [intOf]; omega
          | true =>
            rw [hB2] at hcB
            have hYX := (honY.out hA hB2).trans hX4.out
            replace hA := Aside0.mk hA
            replace hB2 := Aside0.mk hB2
            have hYl : Y.length = 4 := h4
            obtain ⟨ady, ea, hyy⟩ := Kd.at_int HC0.out 0 (by omega) (by omega)
            cases ea
            have HY := HC0
            rw [hYX] at HY
            have hy0 : wi.cell? ⟨ady.block, ady.off, none⟩ = some (.int .i64 r0) := cell_at0 HY.out
            obtain ⟨_, ea, hy1⟩ := Kd.at_int HY.out 1 (by omega) (by simp)
            cases ea
            obtain ⟨_, ea, hy2⟩ := Kd.at_int HY.out 2 (by omega) (by simp)
            cases ea
            obtain ⟨_, ea, hy3⟩ := Kd.at_int HY.out 3 (by omega) (by simp)
            cases ea
            have hy1' : wi.cell? ⟨ady.block, ady.off + 1, none⟩ = some (.int .i64 r1) := hy1
            have hy2' : wi.cell? ⟨ady.block, ady.off + 2, none⟩ = some (.int .i64 r2) := hy2
            have hy3' : wi.cell? ⟨ady.block, ady.off + 3, none⟩ = some (.int .i64 r3) := hy3
            have hsp' : Aside0 (ady = ⟨ady.block, ady.off, none⟩) := ⟨spot_none hyy⟩
            simp only [hYl] at hcA hcB
            replace hcA := Aside0.mk hcA
            replace hcB := Aside0.mk hcB
            clear h4 hyy hnx hy1 hy2 hy3 hYl
            subst hYX
            have hz0' := hz0
            go_wp2_with fail
            (with_reducible refine (hcA.out wi (Below.refl _ _)).mono ?_)
            rintro e w' ⟨rfl, ⟨nd1, rfl⟩⟩
            have hz1w : (wi.drewN nd1).cell? _ = _ := hz1
            have HBi : Aside0 (Below wi.heap.size wi (wi.drewN nd1)) := ⟨pw_below_drewN (Below.refl _ _) nd1⟩
            generalize (wi.drewN nd1) = wj at HBi hz1w ⊢
            have HZ0 := Aside0.mk hz0'
            have HZ1 := Aside0.mk hz1
            clear hx0 hz0 hz1 hz0'
            go_wp2_with fail
            (with_reducible refine (hcB.out wj HBi.out).mono ?_)
            rintro e w' ⟨rfl, ⟨nd2, rfl⟩⟩
            have HBk : Aside0 (Below wi.heap.size wi (wj.drewN nd2).drew) := ⟨below_drew (pw_below_drewN HBi.out nd2)⟩
            clear hz1w
            have hkk : (wj.drewN nd2).drew = (wj.drewN nd2).drew := rfl
            generalize hwk : (wj.drewN nd2) = wk at HBk ⊢
            clear hwk hkk
            have hy0d := (HBk.out.cell (World.block_lt_of_cell? wi _ hy0)).trans hy0
            have hy2d := (HBk.out.cell (World.block_lt_of_cell? wi _ hy2')).trans hy2'
            have HY1 := Aside0.mk hy1'
            have HY3 := Aside0.mk hy3'
            have HY0 := Aside0.mk hy0
            have HY2 := Aside0.mk hy2'
            clear hy1' hy3' hy0 hy2'
            go_wp2_with fail
            generalize ady.block = yb at hy0d hy2d HY1 HY3 HY0 HY2 hsp'
            generalize ady.off = yo at hy0d hy2d HY1 HY3 HY0 HY2 hsp'
            have hady := hsp'.out
            subst hady
            refine start_ (n := 9) (S := fun w' => w'.cell? ⟨yb, yo, none⟩ = some (.int .i64 r0) ∧ w'.cell? ⟨yb, yo + 2, none⟩ = some (.int .i64 r2)) (ds := []) #[false, false, false, false, false, false, false, false, false] (by kernel_rfl) rfl rfl ⟨hy0d, hy2d⟩ (fun hHeld => ?_)
            refine with_tabW spec_FlipDiagonal.tab8 spec_FlipDiagonal.bits8 (fun HT_ HW_ => ?_)
            generalize wk.drew = wd at hHeld hy0d hy2d HBk ⊢
            refine pure_ (i := 0) (N := some 71) (v := ?_) (a' := ?_) #[true, false, false, false, false, false, false, false, false] rfl rfl (any_of HT_.out (by kernel_rfl)) (fun _ _ _ h => h) (Or.inl ⟨by rfl, ?_⟩) ?_ ?_
            rotate_left
            · intro w'
              go_simp
              with_reducible rfl
            rotate_left
            · simp only [Act.put, List.setIfInBounds_toArray, List.set_cons_zero, List.set_cons_succ, i64_w, i32_w]
              rfl
            refine pure_ (i := 1) (N := some 72) (v := ?_) (a' := ?_) #[true, true, false, false, false, false, false, false, false] rfl rfl (any_of HT_.out (by kernel_rfl)) (fun _ _ _ h => h) (Or.inl ⟨by rfl, ?_⟩) ?_ ?_
            rotate_left
            · intro w'
              go_simp
              with_reducible rfl
            rotate_left
            · simp only [Act.put, List.setIfInBounds_toArray, List.set_cons_zero, List.set_cons_succ, i64_w, i32_w]
              rfl
            refine pure_ (i := 3) (N := some 74) (v := ?_) (a' := ?_) #[true, true, false, true, false, false, false, false, false] rfl rfl (any_of HT_.out (by kernel_rfl)) (fun _ _ _ h => h) (Or.inl ⟨by rfl, ?_⟩) ?_ ?_
            rotate_left
            · intro w'
              go_simp
              with_reducible rfl
            rotate_left
            · simp only [Act.put, List.setIfInBounds_toArray, List.set_cons_zero, List.set_cons_succ, i64_w, i32_w]
              rfl
            refine pure_ (i := 4) (N := some 75) (v := ?_) (a' := ?_) #[true, true, false, true, true, false, false, false, false] rfl rfl (any_of HT_.out (by kernel_rfl)) (fun _ _ _ h => h) (Or.inl ⟨by rfl, ?_⟩) ?_ ?_
            rotate_left
            · intro w'
              go_simp
              with_reducible rfl
            rotate_left
            · simp only [Act.put, List.setIfInBounds_toArray, List.set_cons_zero, List.set_cons_succ, i64_w, i32_w]
              rfl
            refine take_ (i := 2) (N := some 73) (v := ?_) (a' := ?_) #[true, true, true, true, true, false, false, false, false] rfl rfl (take_ofW HT_.out HW_.out (by kernel_rfl)) (fun _ _ _ h => h) (Or.inl ⟨by rfl, ?_⟩) hHeld ?_ ?_
            rotate_left
            · rintro w' ⟨s0, s1⟩
              go_simp
              with_reducible rfl
            rotate_left
            · simp only [Act.put, List.setIfInBounds_toArray, List.set_cons_zero, List.set_cons_succ, i64_w, i32_w]
              rfl
            refine take_ (i := 5) (N := some 76) (v := ?_) (a' := ?_) #[true, true, true, true, true, true, false, false, false] rfl rfl (take_ofW HT_.out HW_.out (by kernel_rfl)) (fun _ _ _ h => h) (Or.inl ⟨by rfl, ?_⟩) hHeld ?_ ?_
            rotate_left
            · rintro w' ⟨s0, s1⟩
              go_simp
              with_reducible rfl
            rotate_left
            · simp only [Act.put, List.setIfInBounds_toArray, List.set_cons_zero, List.set_cons_succ, i64_w, i32_w]
              rfl
            refine pure_ (i := 6) (N := some 77) (v := ?_) (a' := ?_) #[true, true, true, true, true, true, true, false, false] rfl rfl (any_of HT_.out (by kernel_rfl)) (fun _ _ _ h => h) (Or.inl ⟨by rfl, ?_⟩) ?_ ?_
            rotate_left
            · intro w'
              go_simp
              with_reducible rfl
            rotate_left
            · simp only [Act.put, List.setIfInBounds_toArray, List.set_cons_zero, List.set_cons_succ, i64_w, i32_w]
              rfl
            refine one_ (i := 7) (N := some 11) #[true, true, true, true, true, true, true, true, false] rfl rfl (one_of HT_.out (by kernel_rfl)) (by decide) (fun K hK => ?_)
            refine event_step (v := .pointer (some ⟨wd.heap.size, 0, none⟩)) (w1 := wd.alloc (.cells #[.int .i64 0, .int .i64 0] 64)) rfl (by first | (go_simp; done) | (go_simp; rfl)) ?_
            have bA : Below wd.heap.size wd (wd.alloc (.cells #[.int .i64 0, .int .i64 0] 64)) := below_alloc (Below.refl _ _) _
            refine hK.out _ _ ⟨(bA.cell (World.block_lt_of_cell? wd _ hy0d)).trans hy0d, (bA.cell (World.block_lt_of_cell? wd _ hy2d)).trans hy2d⟩ (fun hHeld => ?_)
            clear hK K
            refine norm_ (a' := ?_) ?_ ?_
            rotate_left
            · show Act.put _ (some 11) _ = _
              simp only [Act.put, List.setIfInBounds_toArray, List.set_cons_zero, List.set_cons_succ, i64_w, i32_w]
              rfl
            refine one_ (i := 8) (N := none) #[true, true, true, true, true, true, true, true, true] rfl rfl (one_of HT_.out (by kernel_rfl)) (by decide) (fun K hK => ?_)
            refine skip_step (w1 := wd.alloc (.cells #[.int .i64 r0, .int .i64 r2] 64)) rfl rfl (by first | (go_simp; done) | (go_simp; rfl)) ?_
            have bB : Below wd.heap.size wd (wd.alloc (.cells #[.int .i64 r0, .int .i64 r2] 64)) := below_alloc (Below.refl _ _) _
            refine hK.out _ _ ⟨(bB.cell (World.block_lt_of_cell? wd _ hy0d)).trans hy0d, (bB.cell (World.block_lt_of_cell? wd _ hy2d)).trans hy2d⟩ (fun hHeld => ?_)
            clear hK K
            refine norm_ (a' := ?_) ?_ ?_
            rotate_left
            · show Act.put _ none _ = _
              simp only [Act.put, List.setIfInBounds_toArray, List.set_cons_zero, List.set_cons_succ, i64_w, i32_w]
              rfl
            refine done_ (done_of HT_.out (by kernel_rfl)) ?_
            have bE : (wd.alloc (.cells #[.int .i64 r0, .int .i64 r2] 64)).heap[wd.heap.size]? = some (.cells #[.int .i64 r0, .int .i64 r2] 64 (0, 0)) := new_block _ _
            have hBe : Below wi.heap.size wi (wd.alloc (.cells #[.int .i64 r0, .int .i64 r2] 64)) := below_then HBk.out HBk.out.size (below_alloc (Below.refl _ _) _)
            have hGE : w8.heap.size ≤ wd.heap.size := Nat.le_trans HB.out.size HBk.out.size
            generalize (wd.alloc (.cells #[.int .i64 r0, .int .i64 r2] 64)) = we at bE hBe ⊢
            generalize wd.heap.size = gE at bE hGE ⊢
            have hz0e := (hBe.cell (World.block_lt_of_cell? wi _ HZ0.out)).trans HZ0.out
            have hz1e := (hBe.cell (World.block_lt_of_cell? wi _ HZ1.out)).trans HZ1.out
            have hy1e := (hBe.cell (World.block_lt_of_cell? wi _ HY1.out)).trans HY1.out
            have hy3e := (hBe.cell (World.block_lt_of_cell? wi _ HY3.out)).trans HY3.out
            have HB8e : Aside0 (Below w8.heap.size w8 we) := ⟨below_then HB.out HB.out.size hBe⟩
            have hc0e : we.cell? ⟨gE, 0, none⟩ = some (.int .i64 r0) := blk_cell bE 0
            have hc1e : we.cell? ⟨gE, 1, none⟩ = some (.int .i64 r2) := blk_cell bE 1
            have hf0e : we.frozen? ⟨gE, 0, none⟩ = false := blk_frozen bE 0
            have hf1e : we.frozen? ⟨gE, 1, none⟩ = false := blk_frozen bE 1
            have HGE := Aside0.mk hGE
            clear bE hBe hGE hy0d hy2d HBk hHeld HT_ HW_
            go_wp2_with fail
            by_cases hq : (⟨r0, r2⟩ : Ch) = d
            · have hcc := hc'.out
              rw [if_pos hq] at hcc
              have eqb : (r0 == d.f0 && (r2 == d.f1)) = true := by rw [← hq]; simp
              replace hcc := Aside0.mk hcc
              clear hq
              go_quiet (fail)
              have hz0q : (we.drewN nq).cell? _ = _ := hz0e
              have hz1q : (we.drewN nq).cell? _ = _ := hz1e
              clear hz0q hz1q
              go_wp2_with fail
              refine wp_region_still_tail 7 (by kernel_rfl) (by kernel_rfl) ?_
              simp only [List.take_succ_cons, List.take_zero, List.drop_succ_cons, List.drop_zero]
              rw [show ∀ w : World, ({ w with drawn := w.drawn + 1 } : World) = w.drew from fun _ => rfl]
              have k1 : (we.drewN nq).drew.cell? ⟨yb, yo + 1, none⟩ = some (.int .i64 r1) := hy1e
              have kc3 : (we.drewN nq).drew.cell? ⟨yb, yo + 3, none⟩ = some (.int .i64 r3) := hy3e
              have k5 : (we.drewN nq).drew.cell? ⟨gE, 0, none⟩ = some (.int .i64 r0) := hc0e
              have k6 : (we.drewN nq).drew.cell? ⟨gE, 1, none⟩ = some (.int .i64 r2) := hc1e
              have k7 : (we.drewN nq).drew.frozen? ⟨gE, 0, none⟩ = false := hf0e
              have k8 : (we.drewN nq).drew.frozen? ⟨gE, 1, none⟩ = false := hf1e
              have HBv : Aside0 (Below w8.heap.size w8 (we.drewN nq).drew) := ⟨below_drew (pw_below_drewN HB8e.out nq)⟩
              clear hz0e hz1e hy1e hy3e hc0e hc1e hf0e hf1e
              generalize (we.drewN nq).drew = V at k1 kc3 k5 k6 k7 k8 HBv ⊢
              repeat still_step
              try refine wpStill_nil ?_
              go_wp2_with fail
              have hcall : ∀ W, Below w8.heap.size w8 W → Calls Try.prog 70 #[.slice A8 rest.length c8, .agg #[.int .i64 r1, .int .i64 r3]] W fun e w' => ∃ v0_ : Value, e = .returned v0_ ∧ Kd.R k64 64 w' w.heap.size (fun _ => True) v0_ res ∧ Below w.heap.size w w' := fun W hW => by
                have hp := hput.out
                rw [hcc.out] at hp
                refine (spec_srPut.calls k3 (fun _ => True) _ rest r1 r3 res w W (below_step HB8.out hW) (Kd.R_below HR9.out hW) hp).mono ?_
                rintro e w' ⟨v0, rfl, hR, hb, _⟩
                exact ⟨v0, rfl, Kd.R_mono hR (fun _ _ => trivial), hb⟩
              replace hcall := Aside0.mk hcall
              (with_reducible refine (hcall.out _ (below_set (below_set HBv.out HGE.out) HGE.out)).mono ?_)
              rintro e wz ⟨vz, rfl, hRz, hbz⟩
              have HRz := Aside0.mk hRz
              have HBz := Aside0.mk hbz
              clear hRz hbz
              go_wp2_with fail
              go_ret2
              exact ⟨_, rfl, HRz.out, HBz.out⟩
            · have hcc := hc'.out
              rw [if_neg hq] at hcc
              have eqb : (r0 == d.f0 && (r2 == d.f1)) = false := by
                rw [Bool.and_eq_false_iff]
                by_cases e0 : r0 = d.f0
                · right; rw [beq_eq_false_iff_ne]; exact fun e1 => hq (ch_ext e0 e1)
                · left; rw [beq_eq_false_iff_ne]; exact e0
              replace hcc := Aside0.mk hcc
              clear hq
              go_quiet (fail)
              have HBv : Aside0 (Below w8.heap.size w8 (we.drewN nq)) := ⟨pw_below_drewN HB8e.out nq⟩
              have k5 : (we.drewN nq).cell? ⟨gE, 0, none⟩ = some (.int .i64 r0) := hc0e
              have k6 : (we.drewN nq).cell? ⟨gE, 1, none⟩ = some (.int .i64 r2) := hc1e
              clear hz0e hz1e hy1e hy3e hc0e hc1e hf0e hf1e
              generalize (we.drewN nq) = V at k5 k6 HBv ⊢
              go_wp2_with fail
              have hcall : ∀ W, Below w8.heap.size w8 W → Calls Try.prog 70 #[.slice A8 rest.length c8, .agg #[.int .i64 r0, .int .i64 r2]] W fun e w' => ∃ v0_ : Value, e = .returned v0_ ∧ Kd.R k64 64 w' w.heap.size (fun _ => True) v0_ res ∧ Below w.heap.size w w' := fun W hW => by
                have hp := hput.out
                rw [hcc.out] at hp
                refine (spec_srPut.calls k3 (fun _ => True) _ rest r0 r2 res w W (below_step HB8.out hW) (Kd.R_below HR9.out hW) hp).mono ?_
                rintro e w' ⟨v0, rfl, hR, hb, _⟩
                exact ⟨v0, rfl, Kd.R_mono hR (fun _ _ => trivial), hb⟩
              replace hcall := Aside0.mk hcall
              (with_reducible refine (hcall.out _ HBv.out).mono ?_)
              rintro e wz ⟨vz, rfl, hRz, hbz⟩
              have HRz := Aside0.mk hRz
              have HBz := Aside0.mk hbz
              clear hRz hbz
              go_wp2_with fail
              go_ret2
              exact ⟨_, rfl, HRz.out, HBz.out⟩
      · have h4b : ((Y.length : Int) != 4) = true := by simp; omega
        have hn2 := hnx.out (fun h => h4 (by rw [honY.out h.1 h.2, hX4.out]; rfl))
        clear h4 hcA hcB
        go_wp2_with fail
        go_roundw
        case rel => exact ⟨j + 1, by rw [hwj.out], ⟨by have := hlt'.out; omega⟩, hn2, HB⟩
        case measure => rw [hwj.out]; have := hlt'.out; simp [intOf]; omega
    · exfalso
      have hjF : j = F.length := by omega
      obtain ⟨i, hi, he⟩ := List.getElem_of_mem hX.out
      refine hno.out i (by omega) ?_
      rw [rdL4_at hi, he]
      exact hhit.out
end Go.Proofs.Yteeghncofacmhaa.Q
end
section
/- FlipDiagonal: both sides tell the same. -/
namespace Go.Proofs.Yteeghncofacmhaa.Q
open Go.RowKit Go.Proofs.YteeghncofacmhaaW.PrintWords Go.Proofs.YteeghncofacmhaaW.PrintLast Go.Proofs.YteeghncofacmhaaW.PrintMore
attribute [local go_sem] max2_int min2_int max_two min_two max_three min_three max_four min_four
set_option linter.unusedVariables false
set_option linter.unusedSimpArgs false
theorem reDiagonal_eq {n : Int} {c : Ch} (hn : 3 ≤ n ∧ n ≤ 60) (hc : 0 ≤ c.f0 ∧ c.f0 < c.f1 ∧ c.f1 < n) : spec_reDiagonal.f n c.f0 c.f1 = some (diagC n c) := by
  unfold spec_reDiagonal.f spec_cdLength.f spec_l1Least.f diagC
  rw [w64s (x := c.f1 - c.f0) (by omega) (by omega), w64s (x := n - c.f1) (by omega) (by omega), w64s (x := n - c.f1 + c.f0) (by omega) (by omega)]
  by_cases h : c.f1 - c.f0 < n - c.f1 + c.f0
  · rw [if_pos h]; simp only [Option.bind_some]; congr 1; rw [decide_eq_decide]; omega
  · rw [if_neg h]; simp only [Option.bind_some]; congr 1; rw [decide_eq_decide]; omega
theorem reTriangled_ev {n : Int} {l : List Ch} (hg : goodSet n l = true) : Ev (fun k => spec_reTriangled.f k n l) (tri n l) := by
  have hn := good_n hg
  have hok := good_ok hg
  have hl := good_len hg
  have key : ∀ (d i : Nat), i + d = l.length → (∀ j (hj : j < l.length), j < i → diagC n l[j] = true) → Ev (fun k => spec_reTriangled.l0 k n l l (l.length : Int) (i : Int)) (tri n l) := by
    intro d
    induction d with
    | zero =>
      intro i hd hall
      have hall' : l.all (diagC n) = true := List.all_eq_true.2 fun c hc => by
        obtain ⟨j, hj, e⟩ := List.getElem_of_mem hc
        rw [← e]; exact hall j hj (by omega)
      have ht : tri n l = (plane n l && decide ((l.length : Int) = n - 3)) := by unfold tri; rw [hall', Bool.and_true]
      refine Ev.step (f := fun k => (spec_rePlane.f k n l).bind fun b => if b = true then some ((l.length : Int) == n - 3) else some false) (fun k => ?_) ?_
      · simp only [spec_reTriangled.l0]
        rw [if_neg (by omega), w64s (x := n - 3) (by omega) (by omega)]
      · refine Ev.bind (rePlane_ev n l (by omega)) ?_
        rw [ht]
        cases plane n l with
        | true => exact Ev.const fun k => by rw [if_pos rfl, Bool.true_and]; rfl
        | false => exact Ev.const fun k => by simp
    | succ d ih =>
      intro i hd hall
      have hi : i < l.length := by omega
      have hdg := reDiagonal_eq hn (hok _ (List.getElem_mem hi))
      by_cases h : diagC n l[i] = true
      · refine Ev.step (fun k => ?_) (ih (i + 1) (by omega) (fun j hj hji => ?_))
        · simp only [spec_reTriangled.l0]
          rw [if_pos (by omega), if_pos (by omega), if_pos (by omega), rdT_at hi, hdg, w64 hi (by omega)]
          simp only [Option.bind_some]
          rw [if_pos h]
        · rcases Nat.lt_or_ge j i with hj2 | hj2
          · exact hall j hj hj2
          · have : j = i := by omega
            subst this; exact h
      · have ht : tri n l = false := by
          cases htr : tri n l with
          | false => rfl
          | true => exact absurd (tri_diag htr _ (List.getElem_mem hi)) h
        refine Ev.some_ fun k => ?_
        simp only [spec_reTriangled.l0]
        rw [if_pos (by omega), if_pos (by omega), if_pos (by omega), rdT_at hi, hdg]
        simp only [Option.bind_some]
        rw [if_neg h, ht]
  exact key l.length 0 (by omega) (fun j hj h => by omega)
def putCh (l : List Ch) (c : Ch) : List Ch := l.takeWhile (fun x => chLt x c) ++ c :: l.dropWhile (fun x => chLt x c)
theorem take_while_at {α : Type} (p : α → Bool) : ∀ (l : List α) (i : Nat), i ≤ l.length → (∀ j (hj : j < l.length), j < i → p l[j] = true) → (∀ (hi : i < l.length), p l[i] = false) → l.takeWhile p = l.take i ∧ l.dropWhile p = l.drop i
  | [], 0, _, _, _ => ⟨rfl, rfl⟩
  | x :: l, 0, _, _, h2 => by
    have h := h2 (by simp)
    have h' : p x = false := h
    simp [List.takeWhile_cons, List.dropWhile_cons, h']
  | x :: l, i + 1, hi, h1, h2 => by
    have h := h1 0 (by simp) (by omega)
    have h' : p x = true := h
    obtain ⟨a, b⟩ := take_while_at p l i (by simpa using hi) (fun j hj hji => h1 (j + 1) (by simpa using hj) (by omega)) (fun hi' => h2 (by simpa using hi'))
    simp [List.takeWhile_cons, List.dropWhile_cons, h', a, b]
theorem srPut_ev (l : List Ch) (c : Ch) (hl : l.length ≤ 1000) (hnot : c ∉ l) : Ev (fun k => spec_srPut.f k l c.f0 c.f1) (putCh l c) := by
  have key : ∀ (d i : Nat), i + d = l.length → (∀ j (hj : j < l.length), j < i → chLt l[j] c = true) → Ev (fun k => spec_srPut.l0 k l (i : Int) c.f0 c.f1) (putCh l c) := by
    intro d
    induction d with
    | zero =>
      intro i hd hall
      obtain ⟨e1, e2⟩ := take_while_at (fun x => chLt x c) l i (by omega) hall (fun hi => by omega)
      refine Ev.some_ fun k => ?_
      unfold putCh
      rw [e1, e2]
      simp only [spec_srPut.l0, Option.bind_some]
      rw [if_neg (by omega), if_pos (by omega), if_pos (by omega), Int.toNat_natCast]
      simp only [List.nil_append, List.length_append, List.length_nil, List.length_take, List.length_cons, List.length_drop]
      rw [if_pos (by omega), if_pos (by omega), if_pos (by omega)]
      simp
    | succ d ih =>
      intro i hd hall
      have hi : i < l.length := by omega
      by_cases h : chLt l[i] c = true
      · refine Ev.step (fun k => ?_) (ih (i + 1) (by omega) (fun j hj hji => ?_))
        · simp only [spec_srPut.l0]
          rw [if_pos (by omega), if_pos (by omega), rdT_at hi, srLess_eq, w64 hi (by omega)]
          simp only [Option.bind_some]
          rw [if_pos h]
        · rcases Nat.lt_or_ge j i with hj2 | hj2
          · exact hall j hj hj2
          · have : j = i := by omega
            subst this; exact h
      · have h' : chLt l[i] c = false := by simpa using h
        obtain ⟨e1, e2⟩ := take_while_at (fun x => chLt x c) l i (by omega) hall (fun _ => h')
        have hne : ¬ (l[i].f0 == c.f0 && (l[i].f1 == c.f1)) = true := fun he => by
          simp at he
          exact hnot (ch_ext he.1 he.2 ▸ List.getElem_mem hi)
        refine Ev.some_ fun k => ?_
        unfold putCh
        rw [e1, e2]
        simp only [spec_srPut.l0]
        rw [if_pos (by omega), if_pos (by omega), rdT_at hi, srLess_eq]
        simp only [Option.bind_some]
        rw [if_neg h, if_neg hne, if_pos (by omega), Int.toNat_natCast]
        simp only [List.nil_append, List.length_append, List.length_nil, List.length_take, List.length_cons, List.length_drop]
        rw [if_pos (by omega), if_pos (by omega), if_pos (by omega)]
        simp
  exact key l.length 0 (by omega) (fun j hj h => by omega)
theorem chk_of {n : Int} : ∀ {l : List Ch} {p : Option Ch}, (∀ c ∈ l, 0 ≤ c.f0 ∧ c.f0 < c.f1 ∧ c.f1 < n) → (∀ c ∈ l, ∀ d, p = some d → chLt d c = true) → (l.Pairwise fun c d => chLt c d = true) → chk n p l = true
  | [], _, _, _, _ => rfl
  | c :: l, p, ho, hp, hs => by
    rw [List.pairwise_cons] at hs
    simp only [chk, Bool.and_eq_true]
    refine ⟨⟨?_, ?_⟩, chk_of (fun d hd => ho d (List.mem_cons_of_mem _ hd)) (fun d hd e he => ?_) hs.2⟩
    · unfold chOk; rw [decide_eq_true_iff]; exact ho c List.mem_cons_self
    · cases p with
      | none => rfl
      | some d => exact hp c List.mem_cons_self d rfl
    · rw [← Option.some.inj he]; exact hs.1 d hd
theorem cnt_sub : ∀ {l l' : List Ch}, l'.Sublist l → cntPairs l = 0 → cntPairs l' = 0 := fun {l l'} h h0 => by
  have h1 := (cnt_zero h0).sublist h
  clear h h0
  induction l' with
  | nil => rfl
  | cons c l' ih =>
    rw [List.pairwise_cons] at h1
    simp only [cntPairs]
    rw [ih h1.2, List.countP_eq_zero.2 (fun d hd => by rw [h1.1 d hd]; decide)]
theorem plane_sub {n : Int} {l l' : List Ch} (h : plane n l = true) (hs : l'.Sublist l) : plane n l' = true := by
  have hg := plane_good h
  have hn := good_n hg
  have hl := good_len hg
  unfold plane at h ⊢
  rw [Bool.and_eq_true, decide_eq_true_iff] at h ⊢
  refine ⟨?_, cnt_sub hs h.2⟩
  unfold goodSet
  rw [decide_eq_true hn, chk_of (fun c hc => good_ok hg c (hs.subset hc)) (fun c _ d hd => by cases hd) ((good_sorted hg).sublist hs), decide_eq_true (show l'.length ≤ 40 by have := hs.length_le; omega)]
  rfl
theorem sorted_extC : ∀ {a b : List Ch}, (a.Pairwise fun x y => chLt x y = true) → (b.Pairwise fun x y => chLt x y = true) → (∀ x, x ∈ a ↔ x ∈ b) → a = b
  | [], [], _, _, _ => rfl
  | [], y :: b, _, _, h => by have := (h y).2 List.mem_cons_self; simp at this
  | x :: a, [], _, _, h => by have := (h x).1 List.mem_cons_self; simp at this
  | x :: a, y :: b, ha, hb, h => by
    rw [List.pairwise_cons] at ha hb
    have asym : ∀ u v : Ch, chLt u v = true → chLt v u = true → False := fun u v h1 h2 => by
      unfold chLt at h1 h2; simp only [decide_eq_true_iff] at h1 h2; omega
    have hxy : x = y := by
      rcases List.mem_cons.1 ((h x).1 List.mem_cons_self) with e | e
      · exact e
      · rcases List.mem_cons.1 ((h y).2 List.mem_cons_self) with e' | e'
        · exact e'.symm
        · exact (asym _ _ (hb.1 x e) (ha.1 y e')).elim
    subst hxy
    rw [sorted_extC ha.2 hb.2 (fun z => ?_)]
    constructor
    · intro hz
      rcases List.mem_cons.1 ((h z).1 (List.mem_cons_of_mem _ hz)) with e | e
      · exact (asym _ _ (ha.1 z hz) (by rw [e] at hz; exact e ▸ ha.1 x hz)).elim
      · exact e
    · intro hz
      rcases List.mem_cons.1 ((h z).2 (List.mem_cons_of_mem _ hz)) with e | e
      · exact (asym _ _ (hb.1 z hz) (by rw [e] at hz; exact e ▸ hb.1 x hz)).elim
      · exact e
theorem putCh_perm (l : List Ch) (c : Ch) : (putCh l c).Perm (c :: l) := by
  unfold putCh
  refine List.perm_middle.trans ?_
  rw [List.takeWhile_append_dropWhile]
theorem putCh_sorted {l : List Ch} {c : Ch} (hs : l.Pairwise fun x y => chLt x y = true) (hnot : c ∉ l) : (putCh l c).Pairwise fun x y => chLt x y = true := by
  unfold putCh
  have htake : ∀ x ∈ l.takeWhile (fun x => chLt x c), chLt x c = true := fun x hx => (List.all_eq_true.1 List.all_takeWhile) x hx
  have hdrop : ∀ x ∈ l.dropWhile (fun x => chLt x c), chLt c x = true := by
    intro x hx
    have hxl : x ∈ l := (List.dropWhile_sublist _).subset hx
    have hxc : x ≠ c := fun e => hnot (e ▸ hxl)
    have hds := hs.sublist (List.dropWhile_sublist (fun x => chLt x c))
    cases hd : l.dropWhile (fun x => chLt x c) with
    | nil => rw [hd] at hx; simp at hx
    | cons y r =>
      have hy : chLt y c = false := by
        have := List.head?_dropWhile_not (fun x => chLt x c) l
        rw [hd] at this
        simpa using this
      rw [hd] at hx hds
      rw [List.pairwise_cons] at hds
      have hyx : chLt x y = false := by
        rcases List.mem_cons.1 hx with rfl | hx
        · exact chLt_self _
        · have := hds.1 x hx
          unfold chLt at this ⊢
          simp only [decide_eq_true_iff, decide_eq_false_iff_not] at this ⊢
          omega
      have h1 := chLt_ntrans _ _ _ hyx hy
      cases h2 : chLt c x with
      | true => rfl
      | false => exact (hxc (chLt_total' _ _ h1 h2)).elim
  refine List.pairwise_append.2 ⟨hs.sublist (List.takeWhile_sublist _), List.pairwise_cons.2 ⟨hdrop, hs.sublist (List.dropWhile_sublist _)⟩, fun x hx y hy => ?_⟩
  rcases List.mem_cons.1 hy with rfl | hy
  · exact htake x hx
  · exact chLt_trans' _ _ _ (htake x hx) (hdrop y hy)
theorem chLe_trans (a b c : Ch) (h1 : chLe a b = true) (h2 : chLe b c = true) : chLe a c = true := by
  unfold chLe at *
  simp only [Bool.not_eq_true'] at *
  exact chLt_ntrans _ _ _ h2 h1
theorem chLe_total (a b : Ch) : (chLe a b || chLe b a) = true := by
  unfold chLe
  cases h : chLt b a with
  | false => rfl
  | true =>
    have : chLt a b = false := by
      unfold chLt at h ⊢
      simp only [decide_eq_true_iff, decide_eq_false_iff_not] at h ⊢
      omega
    rw [this]; rfl
theorem merge_strict {l : List Ch} (hnd : l.Nodup) : (l.mergeSort chLe).Pairwise fun x y => chLt x y = true := by
  have h1 := List.pairwise_mergeSort chLe_trans chLe_total l
  have h2 : (l.mergeSort chLe).Nodup := (List.mergeSort_perm l chLe).nodup_iff.2 hnd
  rw [List.nodup_iff_pairwise_ne] at h2
  refine (h1.and h2).imp (fun {a b} hab => ?_)
  obtain ⟨hle, hne⟩ := hab
  unfold chLe at hle
  rw [Bool.not_eq_true'] at hle
  cases h : chLt a b with
  | true => rfl
  | false => exact (hne (chLt_total' _ _ h hle)).elim
theorem put_merge {l l' : List Ch} {c : Ch} (hs : l.Pairwise fun x y => chLt x y = true) (hnot : c ∉ l) (hp : l'.Perm (c :: l)) : putCh l c = l'.mergeSort chLe := by
  have hnd : l.Nodup := by
    rw [List.nodup_iff_pairwise_ne]
    exact hs.imp (fun {a b} hab e => by subst e; rw [chLt_irrefl] at hab; cases hab)
  refine sorted_extC (putCh_sorted hs hnot) (merge_strict (hp.nodup_iff.2 (List.nodup_cons.2 ⟨hnot, hnd⟩))) (fun x => ?_)
  rw [(putCh_perm l c).mem_iff, (List.mergeSort_perm l' chLe).mem_iff, hp.mem_iff]
/-- All that both sides' walks want of a flip. -/
theorem flip_law {n : Int} {l : List Ch} (ht : tri n l = true) {m : Nat} (hm : m < l.length) :
    ∃ o1 o2 r0 r1 r2 r3 : Int, others n l l[m] = [o1, o2] ∧ (l.set m (mkCh o1 o2)).Nodup ∧ plane n (l.take m ++ l.drop (m + 1)) = true ∧ [r0, r1, r2, r3] ∈ faces n (l.take m ++ l.drop (m + 1)) ∧
      ([r0, r1, r2, r3].contains l[m].f0 = true ∧ [r0, r1, r2, r3].contains l[m].f1 = true) ∧ (∀ Y ∈ faces n (l.take m ++ l.drop (m + 1)), Y.contains l[m].f0 = true → Y.contains l[m].f1 = true → Y = [r0, r1, r2, r3]) ∧
      mkCh o1 o2 = (if (⟨r0, r2⟩ : Ch) = l[m] then ⟨r1, r3⟩ else ⟨r0, r2⟩) ∧ mkCh o1 o2 ∉ l.take m ++ l.drop (m + 1) ∧ putCh (l.take m ++ l.drop (m + 1)) (mkCh o1 o2) = (l.set m (mkCh o1 o2)).mergeSort chLe := by
  have hp := tri_plane ht
  have hg := plane_good hp
  have hnc := plane_nc hp
  have hn := good_n hg
  have hnd := good_nodup hg
  have hsplit : l = l.take m ++ l[m] :: l.drop (m + 1) := by rw [List.getElem_cons_drop, List.take_append_drop]
  have hsub : (l.take m ++ l.drop (m + 1)).Sublist l := by
    conv => rhs; rw [hsplit]
    exact List.Sublist.append (List.Sublist.refl _) (List.sublist_cons_self _ _)
  have hpr := plane_sub hp hsub
  have hperm : l.Perm (l[m] :: (l.take m ++ l.drop (m + 1))) := by
    conv => lhs; rw [hsplit]
    exact List.perm_middle
  have hcr : l[m] ∉ l.take m ++ l.drop (m + 1) := (List.nodup_cons.1 (hperm.nodup_iff.1 hnd)).1
  have hmem : ∀ d, d ∈ l ↔ d ∈ (l.take m ++ l.drop (m + 1)) ++ [l[m]] := fun d => by
    rw [hperm.mem_iff, List.mem_cons]
    simp only [List.mem_append, List.mem_singleton]
    exact or_comm
  have hset : ∀ c : Ch, (l.set m c).Perm (c :: (l.take m ++ l.drop (m + 1))) := fun c => by
    rw [List.set_eq_take_append_cons_drop, if_pos hm]
    exact List.perm_middle
  have hml := List.getElem_mem hm
  have hso := good_sorted (plane_good hpr)
  have hrn : (l.take m ++ l.drop (m + 1)).Nodup := good_nodup (plane_good hpr)
  generalize l.take m ++ l.drop (m + 1) = rest at hsub hpr hcr hmem hset hso hrn ⊢
  generalize l[m] = d at hcr hmem hml ⊢
  have hok := hnc.ok d hml
  obtain ⟨x, y, p, x1, x2, y0, y1, yo, ho, hpm, hf, huniq⟩ := flip_facts hnc hnd hn.1 (tri_diag ht) (tri_len ht) hmem hcr
  have hNr := plane_nc hpr
  have hfm : face n rest p ∈ faces n rest := by
    unfold faces
    exact (List.mergeSort_perm _ _).mem_iff.2 (List.mem_map.2 ⟨p, mem_ids.2 hpm, rfl⟩)
  have hon : ∀ Y ∈ faces n rest, Y.contains d.f0 = true → Y.contains d.f1 = true → Y = face n rest p := fun Y hY h0 h1 => by
    unfold faces at hY
    obtain ⟨q, hq, rfl⟩ := List.mem_map.1 ((List.mergeSort_perm _ _).mem_iff.1 hY)
    rw [List.contains_iff_mem, mem_face] at h0 h1
    rw [huniq q (mem_ids.1 hq) h0.2 h1.2]
  by_cases hlt : y < d.f0
  · rw [if_pos hlt] at hf
    rw [if_pos (show y < x by omega)] at ho
    rw [hf] at hfm hon
    have hmk : mkCh y x = ⟨y, x⟩ := by unfold mkCh; rw [if_pos (by omega)]
    have hni : mkCh y x ∉ rest := fun h => by
      rw [hmk] at h
      have : ¬ (y < d.f0 ∧ d.f0 < x ∧ x < d.f1) := hnc.nc _ (hsub.subset h) d hml
      omega
    refine ⟨y, x, y, d.f0, x, d.f1, ho, (hset _).nodup_iff.2 (List.nodup_cons.2 ⟨hni, hrn⟩), hpr, hfm, ⟨by simp, by simp⟩, hon, ?_, hni, put_merge hso hni (hset _)⟩
    rw [hmk, if_neg]
    intro e
    have : y = d.f0 := by rw [← e]
    omega
  · rw [if_neg hlt] at hf
    rw [if_neg (show ¬ y < x by omega)] at ho
    rw [hf] at hfm hon
    have hmk : mkCh x y = ⟨x, y⟩ := by unfold mkCh; rw [if_pos (by omega)]
    have hni : mkCh x y ∉ rest := fun h => by
      rw [hmk] at h
      have : ¬ (d.f0 < x ∧ x < d.f1 ∧ d.f1 < y) := hnc.nc d hml _ (hsub.subset h)
      omega
    refine ⟨x, y, d.f0, x, d.f1, y, ho, (hset _).nodup_iff.2 (List.nodup_cons.2 ⟨hni, hrn⟩), hpr, hfm, ⟨by simp, by simp⟩, hon, ?_, hni, put_merge hso hni (hset _)⟩
    rw [hmk, if_pos rfl]
end Go.Proofs.Yteeghncofacmhaa.Q
end
section
/- FlipDiagonal: both contracts, whatever comes in. -/
namespace Go.Proofs.Yteeghncofacmhaa.Q
open Go.RowKit Go.Proofs.YteeghncofacmhaaW.PrintWords Go.Proofs.YteeghncofacmhaaW.PrintLast Go.Proofs.YteeghncofacmhaaW.PrintMore
attribute [local go_sem] max2_int min2_int max_two min_two max_three min_three max_four min_four
set_option linter.unusedVariables false
set_option linter.unusedSimpArgs false
def flipRes (n : Int) (l : List Ch) (k : Int) : List Ch × Bool := if tri n l = true ∧ 0 ≤ k ∧ k < l.length then (flipped n l k, true) else ([], false)
def impl_FlipDiagonal.f (a0 : Int) (l1 : List S64) (a2 : Int) : Option (List S64 × Bool) := if l1.length ≤ 1048576 then some (flipRes a0 l1 a2) else none
def spec_FlipDiagonal.f (a0 : Int) (l1 : List S64) (a2 : Int) : Option (List S64 × Bool) := if l1.length ≤ 1048576 then some (flipRes a0 l1 a2) else none
set_option maxHeartbeats 2000000 in
set_option maxRecDepth 100000 in
theorem impl_FlipDiagonal.calls (a0 : Int) (A1 : Option Addr) (c1 : Nat) (l1 : List S64) (a2 : Int) (r1 : List S64) (r2 : Bool) (w : World) (hr1 : Kd.C k64 w A1 l1.length l1) (hc1 : l1.length ≤ c1) (h : impl_FlipDiagonal.f a0 l1 a2 = some (r1, r2)) :
    Calls Try.prog 27 #[.int .i64 a0, .slice A1 l1.length c1, .int .i64 a2] w fun e w' => ∃ v0_ : Value, e = .returned (.tuple #[v0_, .bool r2]) ∧ Kd.R k64 64 w' w.heap.size (fun _ => True) v0_ r1 ∧ Below w.heap.size w w' := by
  unfold impl_FlipDiagonal.f at h
  by_cases hl' : ¬ l1.length ≤ 1048576
  · rw [if_neg hl'] at h; cases h
  have hl : l1.length ≤ 1048576 := by omega
  clear hl'
  rw [if_pos hl] at h
  replace h := Option.some.inj h
  by_cases hall : tri a0 l1 = true ∧ 0 ≤ a2 ∧ a2 < l1.length
  · obtain ⟨ht, h0, h1⟩ := hall
    obtain ⟨m, rfl⟩ : ∃ m : Nat, a2 = (m : Int) := ⟨a2.toNat, by omega⟩
    have hm : m < l1.length := by omega
    obtain ⟨o1, o2, q0, q1, q2, q3, e1, e2, _⟩ := flip_law ht hm
    have hd := rdT_at hm
    have hres : flipRes a0 l1 (m : Int) = ((l1.set m (mkCh o1 o2)).mergeSort chLe, true) := by
      unfold flipRes flipped
      rw [if_pos ⟨ht, h0, h1⟩, hd, e1]
      rfl
    rw [hres] at h
    injection h with ha hb
    subst ha hb
    exact implFlip_true a0 A1 c1 l1 (m : Int) w hr1 hc1 ht h0 h1 o1 o2 (by rw [hd]; exact e1) (by rw [Int.toNat_natCast]; exact e2)
  · have hres : flipRes a0 l1 a2 = ([], false) := by unfold flipRes; rw [if_neg hall]
    rw [hres] at h
    injection h with ha hb
    subst ha hb
    clear hres
    have hB0 : Below w.heap.size w ((w.alloc (.cells #[.int .i64 a0] 3)).alloc (.cells #[.slice A1 l1.length c1] 27)) := below_alloc (below_alloc (Below.refl _ w) _) _
    have hK4 : ((w.alloc (.cells #[.int .i64 a0] 3)).alloc (.cells #[.slice A1 l1.length c1] 27)).cell? ⟨w.heap.size + 1, 0, none⟩ = some (.slice A1 l1.length c1) := by
      have h := new_cell (w.alloc (.cells #[.int .i64 a0] 3)) #[.slice A1 l1.length c1] 27 0
      rw [show (w.alloc (.cells #[.int .i64 a0] 3)).heap.size = w.heap.size + 1 by simp] at h
      exact h
    have hK3 : ((w.alloc (.cells #[.int .i64 a0] 3)).alloc (.cells #[.slice A1 l1.length c1] 27)).cell? ⟨w.heap.size, 0, none⟩ = some (.int .i64 a0) :=
      ((below_alloc (Below.refl _ (w.alloc (.cells #[.int .i64 a0] 3))) _).cell (p := ⟨w.heap.size, 0, none⟩) (by simp)).trans (new_cell _ _ _ 0)
    have h71 := impl_leavesTriangles.calls a0 A1 c1 l1 (tri a0 l1) _ (Kd.C_below hr1 hB0) hc1 (by unfold impl_leavesTriangles.f; rw [if_pos (by omega)])
    generalize hwb : ((w.alloc (.cells #[.int .i64 a0] 3)).alloc (.cells #[.slice A1 l1.length c1] 27)) = wb at hB0 hK3 hK4 h71
    generalize hgw : w.heap.size = g3 at hK3 hK4
    have hL4 := World.block_lt_of_cell? wb _ hK4
    generalize hg4 : g3 + 1 = g4 at hK4 hL4
    have HB0 := Aside0.mk hB0
    have H4 := Aside0.mk hK4
    have L4 := Aside0.mk hL4
    cases ht : tri a0 l1 with
    | false =>
      rw [ht] at h71
      replace h71 := Aside0.mk h71
      clear hr1 hc1 hl hall ht hB0 hL4
      go_enter Try.func27, Try.ntmps27
      go_wp2_with fail
      (with_reducible refine h71.out.mono ?_)
      rintro e w1 ⟨rfl, hb1⟩
      have HB1 := Aside0.mk (below_step HB0.out hb1)
      clear hb1 hK3 hK4
      go_wp2_with fail
      go_ret2
      exact ⟨_, rfl, Kd.R_nil _ _ _ _ _, by rw [← hgw]; exact HB1.out⟩
    | true =>
      rw [ht] at h71
      have hlc := good_len (plane_good (tri_plane ht))
      have hwi := fun W => impl_within.calls a2 0 ((l1.length : Int) - 1) false W (by rw [within_eq]; congr 1; rw [decide_eq_false_iff_not]; intro hh; exact hall ⟨ht, by omega, by omega⟩)
      have hsub : IntKind.i64.wrap ((l1.length : Int) - 1) = (l1.length : Int) - 1 := by rw [i64_w, w64s (by omega) (by omega)]
      replace h71 := Aside0.mk h71
      replace hwi := Aside0.mk hwi
      clear hr1 hc1 hall ht hB0 hL4
      go_enter Try.func27, Try.ntmps27
      go_wp2_with fail
      (with_reducible refine h71.out.mono ?_)
      rintro e w1 ⟨rfl, hb1⟩
      have k4 := (hb1.cell (p := ⟨g4, 0, none⟩) L4.out).trans H4.out
      have HB1 := Aside0.mk (below_step HB0.out hb1)
      clear hb1 hK3 hK4
      go_wp2_with fail
      (with_reducible refine (hwi.out _).mono ?_)
      rintro e w2 ⟨rfl, ⟨nd, rfl⟩⟩
      have HB2 : Aside0 (Below w.heap.size w (w1.drewN nd)) := ⟨pw_below_drewN HB1.out nd⟩
      clear k4
      generalize (w1.drewN nd) = w2 at HB2 ⊢
      go_wp2_with fail
      go_ret2
      exact ⟨_, rfl, Kd.R_nil _ _ _ _ _, by rw [← hgw]; exact HB2.out⟩
set_option maxHeartbeats 2000000 in
set_option maxRecDepth 100000 in
theorem spec_FlipDiagonal.calls (a0 : Int) (A1 : Option Addr) (c1 : Nat) (l1 : List S64) (a2 : Int) (r1 : List S64) (r2 : Bool) (w : World) (hr1 : Kd.C k64 w A1 l1.length l1) (hc1 : l1.length ≤ c1) (h : spec_FlipDiagonal.f a0 l1 a2 = some (r1, r2)) :
    Calls Try.prog 26 #[.int .i64 a0, .slice A1 l1.length c1, .int .i64 a2] w fun e w' => ∃ v0_ : Value, e = .returned (.tuple #[v0_, .bool r2]) ∧ Kd.R k64 64 w' w.heap.size (fun _ => True) v0_ r1 ∧ Below w.heap.size w w' := by
  unfold spec_FlipDiagonal.f at h
  by_cases hl' : ¬ l1.length ≤ 1048576
  · rw [if_neg hl'] at h; cases h
  have hl : l1.length ≤ 1048576 := by omega
  clear hl'
  rw [if_pos hl] at h
  replace h := Option.some.inj h
  obtain ⟨k1, hk1⟩ := cdGood_ev a0 l1 (by omega)
  replace hk1 := hk1 k1 (Nat.le_refl _)
  cases hg : goodSet a0 l1 with
  | false =>
    have ht : tri a0 l1 = false := by unfold tri plane; rw [hg]; rfl
    have hres : flipRes a0 l1 a2 = ([], false) := by unfold flipRes; rw [if_neg (fun hh => by rw [ht] at hh; exact absurd hh.1 (by decide))]
    rw [hres] at h
    injection h with ha hb
    subst ha hb
    rw [hg] at hk1
    have h67 := spec_cdGood.calls k1 a0 A1 c1 l1 false w hr1 hc1 hk1
    replace h67 := Aside0.mk h67
    clear hr1 hc1 hl hres ht hg hk1
    go_enter Try.func26, Try.ntmps26
    go_wp2_with fail
    (with_reducible refine h67.out.mono ?_)
    rintro e w1 ⟨rfl, hb1⟩
    have HB1 := Aside0.mk hb1
    clear hb1
    go_wp2_with fail
    go_ret2
    exact ⟨_, rfl, Kd.R_nil _ _ _ _ _, HB1.out⟩
  | true =>
    rw [hg] at hk1
    obtain ⟨k2, hk2⟩ := reTriangled_ev hg
    replace hk2 := hk2 k2 (Nat.le_refl _)
    have hlc := good_len hg
    by_cases hall : tri a0 l1 = true ∧ 0 ≤ a2 ∧ a2 < l1.length
    · obtain ⟨ht, h0, h1⟩ := hall
      obtain ⟨m, rfl⟩ : ∃ m : Nat, a2 = (m : Int) := ⟨a2.toNat, by omega⟩
      have hm : m < l1.length := by omega
      obtain ⟨o1, o2, q0, q1, q2, q3, e1, e2, e3, e4, e5, e6, e7, e8, e9⟩ := flip_law ht hm
      have hd := rdT_at hm
      have hres : flipRes a0 l1 (m : Int) = ((l1.set m (mkCh o1 o2)).mergeSort chLe, true) := by
        unfold flipRes flipped
        rw [if_pos ⟨ht, h0, h1⟩, hd, e1]
        rfl
      rw [hres] at h
      injection h with ha hb
      subst ha hb
      rw [ht] at hk2
      have hrl : (l1.take m ++ l1.drop (m + 1)).length ≤ 40 := by simp; omega
      obtain ⟨k3, hk3⟩ := srPut_ev (l1.take m ++ l1.drop (m + 1)) (mkCh o1 o2) (by omega) e8
      replace hk3 := hk3 k3 (Nat.le_refl _)
      rw [e9] at hk3
      exact specFlip_true a0 A1 c1 l1 (m : Int) w hr1 hc1 h0 h1 hlc k1 k2 hk1 hk2 (l1.take m ++ l1.drop (m + 1)) (by rw [Int.toNat_natCast]) (faces a0 (l1.take m ++ l1.drop (m + 1))) (reList_eq e3) (fun x hx => by have := faces_small e3 x hx; omega) (by rw [faces_length]; omega)
        l1[m] hd [q0, q1, q2, q3] e4 e5 q0 q1 q2 q3 rfl e6 (mkCh o1 o2) e7 _ k3 hk3
    · have hres : flipRes a0 l1 a2 = ([], false) := by unfold flipRes; rw [if_neg hall]
      rw [hres] at h
      injection h with ha hb
      subst ha hb
      have h67 := spec_cdGood.calls k1 a0 A1 c1 l1 true w hr1 hc1 hk1
      have h68 := fun W hW => spec_reTriangled.calls k2 a0 A1 c1 l1 _ W (Kd.C_below hr1 hW) hc1 hk2
      replace h67 := Aside0.mk h67
      cases ht : tri a0 l1 with
      | false =>
        rw [ht] at h68
        replace h68 := Aside0.mk h68
        clear hr1 hc1 hl hres ht hg hk1 hk2 hall hlc
        go_enter Try.func26, Try.ntmps26
        go_wp2_with fail
        (with_reducible refine h67.out.mono ?_)
        rintro e w1 ⟨rfl, hb1⟩
        have HB1 := Aside0.mk hb1
        clear hb1
        go_wp2_with fail
        (with_reducible refine (h68.out w1 HB1.out).mono ?_)
        rintro e w2 ⟨rfl, hb2⟩
        have HB2 : Aside0 (Below w.heap.size w w2) := ⟨below_step HB1.out hb2⟩
        clear hb2
        go_wp2_with fail
        go_ret2
        exact ⟨_, rfl, Kd.R_nil _ _ _ _ _, HB2.out⟩
      | true =>
        rw [ht] at h68
        have h61 := fun W => spec_l1In.calls a2 0 ((l1.length : Int) - 1) false W (by rw [l1In_eq]; congr 1; rw [decide_eq_false_iff_not]; intro hh; exact hall ⟨ht, by omega, by omega⟩)
        have hsub : IntKind.i64.wrap ((l1.length : Int) - 1) = (l1.length : Int) - 1 := by rw [i64_w, w64s (by omega) (by omega)]
        replace h68 := Aside0.mk h68
        replace h61 := Aside0.mk h61
        clear hr1 hc1 hres ht hg hk1 hk2 hall
        go_enter Try.func26, Try.ntmps26
        go_wp2_with fail
        (with_reducible refine h67.out.mono ?_)
        rintro e w1 ⟨rfl, hb1⟩
        have HB1 := Aside0.mk hb1
        clear hb1
        go_wp2_with fail
        (with_reducible refine (h68.out w1 HB1.out).mono ?_)
        rintro e w2 ⟨rfl, hb2⟩
        have HB2 : Aside0 (Below w.heap.size w w2) := ⟨below_step HB1.out hb2⟩
        clear hb2
        go_wp2_with fail
        (with_reducible refine (h61.out w2).mono ?_)
        rintro e w3 ⟨rfl, ⟨nd, rfl⟩⟩
        have HB3 : Aside0 (Below w.heap.size w (w2.drewN nd)) := ⟨pw_below_drewN HB2.out nd⟩
        generalize (w2.drewN nd) = w3 at HB3 ⊢
        go_wp2_with fail
        go_ret2
        exact ⟨_, rfl, Kd.R_nil _ _ _ _ _, HB3.out⟩
end Go.Proofs.Yteeghncofacmhaa.Q
end
section
namespace Go.Proofs.Yteeghncofacmhaa.Q
open Go.RowKit Go.Proofs.YteeghncofacmhaaW.PrintWords Go.Proofs.YteeghncofacmhaaW.PrintLast Go.Proofs.YteeghncofacmhaaW.PrintMore
attribute [local go_sem] max2_int min2_int max_two min_two max_three min_three max_four min_four   -- for this text's walks alone
set_option linter.unusedVariables false
set_option linter.unusedSimpArgs false
/-! ### laws_heldChordS: function 28 -/
def laws_heldChordS.l0 : Nat → List (S64) → Int → Int → Option (Int)
  | 0, _, _, _ => none
  | k + 1, x0, x1, x5 => if x5 < (x0.length : Int) then (if 0 ≤ x5 then (if ((rd_T64 x0 x5).f0) = x1 then (if ((rd_T64 x0 x5).f1) = (wrap64 (x1 + 1)) then (laws_heldChordS.l0 k x0 (wrap64 ((wrap64 (x1 + 1)) + 1)) (wrap64 (x5 + 1))) else (some (-1))) else (some (-1))) else (none)) else (some x1)
def laws_heldChordS.f (k : Nat) (l0 : List (S64)) (a1 : Int) : Option (Int) := laws_heldChordS.l0 k l0 a1 0
set_option maxHeartbeats 8000000 in
set_option maxRecDepth 100000 in
theorem laws_heldChordS.calls (k : Nat) (A0 : Option Addr) (c0 : Nat) (l0 : List (S64)) (a1 : Int) (r : Int) (w : World) (hr0 : Kd.C k64 w A0 l0.length l0) (hc0 : l0.length ≤ c0) (h : laws_heldChordS.f k l0 a1 = some r) :
    Calls Try.prog 28 #[.slice A0 l0.length c0, .int .i64 a1] w fun e w' => e = .returned (.int .i64 r) ∧ Drawn0 w w' := by
  have HR0 := Aside0.mk hr0
  have HC0 := Aside0.mk hc0
  clear hr0 hc0
  have H : (laws_heldChordS.l0 k l0 a1 0) = some r := h
  clear h
  have H' := Aside0.mk H
  clear H
  go_enter Try.func28, Try.ntmps28
  go_wp2
  go_loopg [1, 5] k (fun kq v1 v5 w' => ∃ (x1_1 : Int) (x5_1 : Int), v1 = .int .i64 x1_1 ∧ v5 = .int .i64 x5_1 ∧ Aside0 (laws_heldChordS.l0 kq l0 x1_1 x5_1 = some r) ∧ Aside0 (kq ≤ k) ∧ Drawn0 w w')
  case atStart => exact ⟨(a1), (0), (by first | rfl | (simp; done) | (simp [*]; done)), (by first | rfl | (simp; done) | (simp [*]; done)), H', ⟨Nat.le_refl _⟩, by repeat (first | exact Drawn0.refl _ | apply Drawn0.step)⟩
  case round =>
    clear H'
    try clear c2
    try clear p2
    obtain ⟨x1_1, x5_1, rfl, rfl, HA, HK1, ⟨m1, rfl⟩⟩ := hrel
    cases gk with
    | zero => exact absurd HA.out (by simp [laws_heldChordS.l0])
    | succ k1 =>
      have H := HA.out
      clear HA
      simp only [laws_heldChordS.l0] at H
      by_cases c3 : x5_1 < (l0.length : Int)
      · rw [if_pos c3] at H
        have c3b0 : decide (x5_1 < (l0.length : Int)) = true := decide_eq_true c3
        clear c3
        by_cases c4 : 0 ≤ x5_1
        · rw [if_pos c4] at H
          have c4b0 : decide (0 ≤ x5_1) = true := decide_eq_true c4
          clear c4
          by_cases c5 : ((rd_T64 l0 x5_1).f0) = x1_1
          · rw [if_pos c5] at H
            have c5b0 : (((rd_T64 l0 x5_1).f0) == x1_1) = true := beq_iff_eq.mpr c5
            have c5b1 : (((rd_T64 l0 x5_1).f0) != x1_1) = false := bne_eq_false_iff_eq.mpr c5
            clear c5
            by_cases c6 : ((rd_T64 l0 x5_1).f1) = (wrap64 (x1_1 + 1))
            · rw [if_pos c6] at H
              have c6b0 : (((rd_T64 l0 x5_1).f1) == (wrap64 (x1_1 + 1))) = true := beq_iff_eq.mpr c6
              have c6b1 : (((rd_T64 l0 x5_1).f1) != (wrap64 (x1_1 + 1))) = false := bne_eq_false_iff_eq.mpr c6
              clear c6
              have H' := Aside0.mk H
              clear H
              have p101 : 0 ≤ (x5_1 : Int) := of_decide_eq_true (by first | (with_reducible assumption) | assumption)
              have q101 : x5_1 < (l0.length : Int) := of_decide_eq_true (by first | (with_reducible assumption) | assumption)
              obtain ⟨ad101, e101, hx101_0, hx101_1⟩ := at_T64 HR0.out x5_1 p101 q101
              cases e101
              replace p101 := eq_true p101
              replace q101 := eq_true q101
              have p102 : 0 ≤ (x5_1 : Int) := of_decide_eq_true (by first | (with_reducible assumption) | assumption)
              have q102 : x5_1 < (l0.length : Int) := of_decide_eq_true (by first | (with_reducible assumption) | assumption)
              obtain ⟨ad102, e102, hx102_0, hx102_1⟩ := at_T64 HR0.out x5_1 p102 q102
              obtain rfl : ad101 = ad102 := (by injection e102)
              replace p102 := eq_true p102
              replace q102 := eq_true q102
              go_wp2
              go_roundg k1
              case measure => have := HK1.out; omega
              case rel => exact ⟨(wrap64 ((wrap64 (x1_1 + 1)) + 1)), (wrap64 (x5_1 + 1)), (by first | rfl | (simp; done) | (simp [*]; done)), (by first | rfl | (simp; done) | (simp [*]; done)), H', ⟨by have := HK1.out; omega⟩, by repeat (first | exact Drawn0.refl _ | apply Drawn0.step)⟩
            · rw [if_neg c6] at H
              have c6b0 : (((rd_T64 l0 x5_1).f1) == (wrap64 (x1_1 + 1))) = false := beq_eq_false_iff_ne.mpr c6
              have c6b1 : (((rd_T64 l0 x5_1).f1) != (wrap64 (x1_1 + 1))) = true := bne_iff_ne.mpr c6
              obtain rfl := Option.some.inj H
              have p101 : 0 ≤ (x5_1 : Int) := of_decide_eq_true (by first | (with_reducible assumption) | assumption)
              have q101 : x5_1 < (l0.length : Int) := of_decide_eq_true (by first | (with_reducible assumption) | assumption)
              obtain ⟨ad101, e101, hx101_0, hx101_1⟩ := at_T64 HR0.out x5_1 p101 q101
              cases e101
              replace p101 := eq_true p101
              replace q101 := eq_true q101
              have p102 : 0 ≤ (x5_1 : Int) := of_decide_eq_true (by first | (with_reducible assumption) | assumption)
              have q102 : x5_1 < (l0.length : Int) := of_decide_eq_true (by first | (with_reducible assumption) | assumption)
              obtain ⟨ad102, e102, hx102_0, hx102_1⟩ := at_T64 HR0.out x5_1 p102 q102
              obtain rfl : ad101 = ad102 := (by injection e102)
              replace p102 := eq_true p102
              replace q102 := eq_true q102
              go_wp2
              go_ret
              exact ⟨by first | rfl | (simp; done) | (simp [*]; done), by repeat (first | exact Drawn0.refl _ | apply Drawn0.step)⟩
          · rw [if_neg c5] at H
            have c5b0 : (((rd_T64 l0 x5_1).f0) == x1_1) = false := beq_eq_false_iff_ne.mpr c5
            have c5b1 : (((rd_T64 l0 x5_1).f0) != x1_1) = true := bne_iff_ne.mpr c5
            obtain rfl := Option.some.inj H
            have p101 : 0 ≤ (x5_1 : Int) := of_decide_eq_true (by first | (with_reducible assumption) | assumption)
            have q101 : x5_1 < (l0.length : Int) := of_decide_eq_true (by first | (with_reducible assumption) | assumption)
            obtain ⟨ad101, e101, hx101_0, hx101_1⟩ := at_T64 HR0.out x5_1 p101 q101
            cases e101
            replace p101 := eq_true p101
            replace q101 := eq_true q101
            go_wp2
            go_ret
            exact ⟨by first | rfl | (simp; done) | (simp [*]; done), by repeat (first | exact Drawn0.refl _ | apply Drawn0.step)⟩
        · rw [if_neg c4] at H
          exact absurd H (by simp)
      · rw [if_neg c3] at H
        have c3b0 : decide (x5_1 < (l0.length : Int)) = false := decide_eq_false c3
        clear c3
        obtain rfl := Option.some.inj H
        go_wp2
        go_ret
        exact ⟨by first | rfl | (simp; done) | (simp [*]; done), by repeat (first | exact Drawn0.refl _ | apply Drawn0.step)⟩
end Go.Proofs.Yteeghncofacmhaa.Q
end
section
namespace Go.Proofs.Yteeghncofacmhaa.Q
open Go.RowKit Go.Proofs.YteeghncofacmhaaW.PrintWords Go.Proofs.YteeghncofacmhaaW.PrintLast Go.Proofs.YteeghncofacmhaaW.PrintMore
attribute [local go_sem] max2_int min2_int max_two min_two max_three min_three max_four min_four   -- for this text's walks alone
set_option linter.unusedVariables false
set_option linter.unusedSimpArgs false
/-! ### laws_FnExactFlipDiagonal: function 6 -/
mutual
def laws_FnExactFlipDiagonal.j0 : Nat → Int → List (S66) → Int → List (S64) → Bool → List (S64) → List (S64) → Bool → Bool → Option (Bool)
  | 0, _, _, _, _, _, _, _, _, _ => none
  | k + 1, x0, x1, x2, x8, x9, x10, x11, x12, x48 => if x48 = true then (some false) else ((laws_toChordS.f k x1).bind fun t117 => ((laws_eqChordS.f k x10 t117).bind fun t120 => (if t120 = true then ((laws_markChordS.f k x10 1).bind fun bt121 => (if bt121.1 < 0 then (laws_FnExactFlipDiagonal.j1 k x0 x1 x2 x8 x9 x11 true) else ((laws_eqChordS.f k x11 x8).bind fun t123 => (if t123 = true then (laws_FnExactFlipDiagonal.j1 k x0 x1 x2 x8 x9 x11 (x12 != x9)) else (laws_FnExactFlipDiagonal.j1 k x0 x1 x2 x8 x9 x11 true))))) else (some false))))
def laws_FnExactFlipDiagonal.j1 : Nat → Int → List (S66) → Int → List (S64) → Bool → List (S64) → Bool → Option (Bool)
  | 0, _, _, _, _, _, _, _ => none
  | k + 1, x0, x1, x2, x8, x9, x11, x69 => if x69 = true then (some false) else ((laws_markChordS.f k x11 1).bind fun bt124 => ((laws_heldChordS.f k bt124.2 1).bind fun t126 => (if t126 < 0 then (some false) else (if t126 = bt124.1 then ((laws_toChordS.f k x1).bind fun t127 => ((impl_FlipDiagonal.f x0 t127 x2).bind fun bt130 => ((laws_eqChordS.f k bt130.1 x8).bind fun t134 => (if t134 = true then (laws_FnExactFlipDiagonal.j2 k bt124.2 bt124.1 (bt130.2 != x9)) else (laws_FnExactFlipDiagonal.j2 k bt124.2 bt124.1 true))))) else (some false)))))
def laws_FnExactFlipDiagonal.j2 : Nat → List (S64) → Int → Bool → Option (Bool)
  | 0, _, _, _ => none
  | k + 1, x11, x14, x97 => if x97 = true then (some false) else ((laws_heldChordS.f k x11 1).bind fun t135 => (if t135 < 0 then (some false) else (if t135 = x14 then (some true) else (some false))))
end
def laws_FnExactFlipDiagonal.f (k : Nat) (a0 : Int) (l1 : List (S66)) (a2 : Int) : Option (Bool) := (laws_szChordS.f l1 1048576).bind fun t101 => (if t101 < 0 then (some true) else ((laws_toChordS.f k l1).bind fun t102 => ((spec_FlipDiagonal.f a0 t102 a2).bind fun bt105 => ((laws_toChordS.f k l1).bind fun t109 => ((impl_FlipDiagonal.f a0 t109 a2).bind fun bt112 => ((laws_eqChordS.f k bt112.1 bt105.1).bind fun t116 => (if t116 = true then (laws_FnExactFlipDiagonal.j0 k a0 l1 a2 bt105.1 bt105.2 t109 bt112.1 bt112.2 (bt112.2 != bt105.2)) else (laws_FnExactFlipDiagonal.j0 k a0 l1 a2 bt105.1 bt105.2 t109 bt112.1 bt112.2 true))))))))
set_option maxHeartbeats 8000000 in
set_option maxRecDepth 100000 in
theorem laws_FnExactFlipDiagonal.calls (k : Nat) (a0 : Int) (A1 : Option Addr) (c1 : Nat) (l1 : List (S66)) (a2 : Int) (r : Bool) (w : World) (hr1 : Kd.C k66 w A1 l1.length l1) (hc1 : l1.length ≤ c1) (h : laws_FnExactFlipDiagonal.f k a0 l1 a2 = some r) :
    Calls Try.prog 6 #[.int .i64 a0, .slice A1 l1.length c1, .int .i64 a2] w fun e w' => e = .returned (.bool r) ∧ Below w.heap.size w w' := by
  have HR1 := Aside0.mk hr1
  have HC1 := Aside0.mk hc1
  clear hr1 hc1
  have HB := Aside0.mk (Below.refl w.heap.size w)
  have H : ((laws_szChordS.f l1 1048576).bind fun t101 => (if t101 < 0 then (some true) else ((laws_toChordS.f k l1).bind fun t102 => ((spec_FlipDiagonal.f a0 t102 a2).bind fun bt105 => ((laws_toChordS.f k l1).bind fun t109 => ((impl_FlipDiagonal.f a0 t109 a2).bind fun bt112 => ((laws_eqChordS.f k bt112.1 bt105.1).bind fun t116 => (if t116 = true then (laws_FnExactFlipDiagonal.j0 k a0 l1 a2 bt105.1 bt105.2 t109 bt112.1 bt112.2 (bt112.2 != bt105.2)) else (laws_FnExactFlipDiagonal.j0 k a0 l1 a2 bt105.1 bt105.2 t109 bt112.1 bt112.2 true))))))))) = some r := h
  clear h
  replace H := Option.bind_eq_some_iff.mp H
  obtain ⟨t101, A40, H⟩ := H
  replace H : (if t101 < 0 then (some true) else ((laws_toChordS.f k l1).bind fun t102 => ((spec_FlipDiagonal.f a0 t102 a2).bind fun bt105 => ((laws_toChordS.f k l1).bind fun t109 => ((impl_FlipDiagonal.f a0 t109 a2).bind fun bt112 => ((laws_eqChordS.f k bt112.1 bt105.1).bind fun t116 => (if t116 = true then (laws_FnExactFlipDiagonal.j0 k a0 l1 a2 bt105.1 bt105.2 t109 bt112.1 bt112.2 (bt112.2 != bt105.2)) else (laws_FnExactFlipDiagonal.j0 k a0 l1 a2 bt105.1 bt105.2 t109 bt112.1 bt112.2 true)))))))) = some r := H
  have A4 := Aside0.mk A40
  clear A40
  by_cases c5 : t101 < 0
  · rw [if_pos c5] at H
    have c5b0 : decide (t101 < 0) = true := decide_eq_true c5
    clear c5
    obtain rfl := Option.some.inj H
    go_enter Try.func6, Try.ntmps6
    go_wp2_with (first | ((with_reducible refine gate_callee (f := 10) rfl ?_); refine goesL_ (some 20) rfl rfl Try.func10 (by kernel_rfl) rfl #[.slice A1 l1.length c1, .int .i64 1048576] rfl (by (try simp only [List.map_toArray, List.map_cons, List.map_nil]); first | done | rfl | (simp only [List.length_drop, List.length_take]; rfl)) ?_; (with_reducible refine (laws_szChordS.calls _ _ l1 1048576 t101 _ ?side1 ?side2 A4.out).mono ?_); (case side1 => repeat (first | exact HR1.out | (with_reducible refine Kd.C_alloc ?_ _) | (with_reducible refine Kd.C_drewN ?_ _) | (with_reducible refine Kd.C_drew ?_))); (case side2 => exact HC1.out); rintro e w' ⟨rfl, ⟨nd, rfl⟩⟩; refine ⟨_, rfl, ?_⟩))
    go_ret
    exact ⟨by first | rfl | (simp [errW_none, errW_some] <;> rfl) | (simp [*, errW_none, errW_some] <;> rfl), by repeat (first | (with_reducible first | exact HB.out | apply below_alloc | apply pw_below_drewN | apply below_drew1) | exact HB.out)⟩
  · rw [if_neg c5] at H
    have c5b0 : decide (t101 < 0) = false := decide_eq_false c5
    clear c5
    replace H := Option.bind_eq_some_iff.mp H
    obtain ⟨t102, A60, H⟩ := H
    replace H : ((spec_FlipDiagonal.f a0 t102 a2).bind fun bt105 => ((laws_toChordS.f k l1).bind fun t109 => ((impl_FlipDiagonal.f a0 t109 a2).bind fun bt112 => ((laws_eqChordS.f k bt112.1 bt105.1).bind fun t116 => (if t116 = true then (laws_FnExactFlipDiagonal.j0 k a0 l1 a2 bt105.1 bt105.2 t109 bt112.1 bt112.2 (bt112.2 != bt105.2)) else (laws_FnExactFlipDiagonal.j0 k a0 l1 a2 bt105.1 bt105.2 t109 bt112.1 bt112.2 true)))))) = some r := H
    have A6 := Aside0.mk A60
    clear A60
    replace H := Option.bind_eq_some_iff.mp H
    obtain ⟨⟨t105, t106⟩, A70, H⟩ := H
    replace H : ((laws_toChordS.f k l1).bind fun t109 => ((impl_FlipDiagonal.f a0 t109 a2).bind fun bt112 => ((laws_eqChordS.f k bt112.1 t105).bind fun t116 => (if t116 = true then (laws_FnExactFlipDiagonal.j0 k a0 l1 a2 t105 t106 t109 bt112.1 bt112.2 (bt112.2 != t106)) else (laws_FnExactFlipDiagonal.j0 k a0 l1 a2 t105 t106 t109 bt112.1 bt112.2 true))))) = some r := H
    have A7 := Aside0.mk A70
    clear A70
    replace H := Option.bind_eq_some_iff.mp H
    obtain ⟨t109, A80, H⟩ := H
    replace H : ((impl_FlipDiagonal.f a0 t109 a2).bind fun bt112 => ((laws_eqChordS.f k bt112.1 t105).bind fun t116 => (if t116 = true then (laws_FnExactFlipDiagonal.j0 k a0 l1 a2 t105 t106 t109 bt112.1 bt112.2 (bt112.2 != t106)) else (laws_FnExactFlipDiagonal.j0 k a0 l1 a2 t105 t106 t109 bt112.1 bt112.2 true)))) = some r := H
    have A8 := Aside0.mk A80
    clear A80
    replace H := Option.bind_eq_some_iff.mp H
    obtain ⟨⟨t112, t113⟩, A90, H⟩ := H
    replace H : ((laws_eqChordS.f k t112 t105).bind fun t116 => (if t116 = true then (laws_FnExactFlipDiagonal.j0 k a0 l1 a2 t105 t106 t109 t112 t113 (t113 != t106)) else (laws_FnExactFlipDiagonal.j0 k a0 l1 a2 t105 t106 t109 t112 t113 true))) = some r := H
    have A9 := Aside0.mk A90
    clear A90
    have HC10 := Aside0.mk H
    clear H
    go_enter Try.func6, Try.ntmps6
    go_upto_region 8 with (first | ((with_reducible refine gate_callee (f := 10) rfl ?_); refine goesL_ (some 20) rfl rfl Try.func10 (by kernel_rfl) rfl #[.slice A1 l1.length c1, .int .i64 1048576] rfl (by (try simp only [List.map_toArray, List.map_cons, List.map_nil]); first | done | rfl | (simp only [List.length_drop, List.length_take]; rfl)) ?_; (with_reducible refine (laws_szChordS.calls _ _ l1 1048576 t101 _ ?side1 ?side2 A4.out).mono ?_); (case side1 => repeat (first | exact HR1.out | (with_reducible refine Kd.C_alloc ?_ _) | (with_reducible refine Kd.C_drewN ?_ _) | (with_reducible refine Kd.C_drew ?_))); (case side2 => exact HC1.out); rintro e w' ⟨rfl, ⟨nd, rfl⟩⟩; refine ⟨_, rfl, ?_⟩) | ((with_reducible refine gate_callee (f := 12) rfl ?_); refine goesL_ (some 26) rfl rfl Try.func12 (by kernel_rfl) rfl #[.slice A1 l1.length c1] rfl (by (try simp only [List.map_toArray, List.map_cons, List.map_nil]); first | done | rfl | (simp only [List.length_drop, List.length_take]; rfl)) ?_; (with_reducible refine (laws_toChordS.calls k _ _ l1 t102 _ ?side1 ?side2 A6.out).mono ?_); (case side1 => repeat (first | exact HR1.out | (with_reducible refine Kd.C_alloc ?_ _) | (with_reducible refine Kd.C_drewN ?_ _) | (with_reducible refine Kd.C_drew ?_))); (case side2 => exact HC1.out); rintro e w11 ⟨v103, rfl, ho0, hb⟩; refine ⟨_, rfl, ?_⟩; have n0_ := Aside0.mk (Kd.R_lower ho0 (below_size (by repeat (first | (with_reducible first | exact HB.out | apply below_alloc | apply pw_below_drewN | apply below_drew1) | exact HB.out)))); have n1_ := Aside0.mk (below_step (by repeat (first | (with_reducible first | exact HB.out | apply below_alloc | apply pw_below_drewN | apply below_drew1) | exact HB.out)) hb); clear HB; have HO104 := n0_; have HB := n1_; clear n0_ n1_; (try clear hb); (try clear hb2); (try clear hk); (try clear hi); (try clear ho0); obtain ⟨Ao12, co12, eo12⟩ := Kd.R_slice HO104.out; subst eo12) | ((with_reducible refine gate_callee (f := 26) rfl ?_); refine goesL_ (some 28) rfl rfl Try.func26 (by kernel_rfl) rfl #[.int .i64 a0, .slice Ao12 t102.length co12, .int .i64 a2] rfl (by (try simp only [List.map_toArray, List.map_cons, List.map_nil]); first | done | rfl | (simp only [List.length_drop, List.length_take]; rfl)) ?_; (with_reducible refine (spec_FlipDiagonal.calls a0 _ _ t102 a2 t105 t106 _ ?side1 ?side2 A7.out).mono ?_); (case side1 => repeat (first | exact (Kd.R_reads' HO104.out).2.2 | (with_reducible refine Kd.C_alloc ?_ _) | (with_reducible refine Kd.C_drewN ?_ _) | (with_reducible refine Kd.C_drew ?_))); (case side2 => exact (Kd.R_reads' HO104.out).2.1); rintro e w13 ⟨v107, rfl, ho0, hb⟩; refine ⟨_, rfl, ?_⟩; have n0_ := Aside0.mk (Kd.R_elder' (by (with_reducible repeat (first | apply Kd.R_alloc | apply Kd.R_drewN | apply Kd.R_drew)); exact HO104.out) (Kd.R_base ho0) hb); have n1_ := Aside0.mk (Kd.R_lower (Kd.R_new' ho0 (Kd.R_lt (by (with_reducible repeat (first | apply Kd.R_alloc | apply Kd.R_drewN | apply Kd.R_drew)); exact HO104.out))) (below_size (by repeat (first | (with_reducible first | exact HB.out | apply below_alloc | apply pw_below_drewN | apply below_drew1) | exact HB.out)))); have n2_ := Aside0.mk (below_step (by repeat (first | (with_reducible first | exact HB.out | apply below_alloc | apply pw_below_drewN | apply below_drew1) | exact HB.out)) hb); clear HO104; clear HB; have HO104 := n0_; have HO108 := n1_; have HB := n2_; clear n0_ n1_ n2_; (try clear hb); (try clear hb2); (try clear hk); (try clear hi); (try clear ho0)) | ((with_reducible refine gate_callee (f := 12) rfl ?_); refine goesL_ (some 32) rfl rfl Try.func12 (by kernel_rfl) rfl #[.slice A1 l1.length c1] rfl (by (try simp only [List.map_toArray, List.map_cons, List.map_nil]); first | done | rfl | (simp only [List.length_drop, List.length_take]; rfl)) ?_; (with_reducible refine (laws_toChordS.calls k _ _ l1 t109 _ ?side1 ?side2 A8.out).mono ?_); (case side1 => repeat (first | exact (Kd.C_below HR1.out HB.out) | (with_reducible refine Kd.C_alloc ?_ _) | (with_reducible refine Kd.C_drewN ?_ _) | (with_reducible refine Kd.C_drew ?_))); (case side2 => exact HC1.out); rintro e w14 ⟨v110, rfl, ho0, hb⟩; refine ⟨_, rfl, ?_⟩; have n0_ := Aside0.mk (Kd.R_elder' (by (with_reducible repeat (first | apply Kd.R_alloc | apply Kd.R_drewN | apply Kd.R_drew)); exact HO104.out) (Kd.R_base ho0) hb); have n1_ := Aside0.mk (Kd.R_elder' (by (with_reducible repeat (first | apply Kd.R_alloc | apply Kd.R_drewN | apply Kd.R_drew)); exact HO108.out) (Kd.R_base ho0) hb); have n2_ := Aside0.mk (Kd.R_lower (Kd.R_new' (Kd.R_new' ho0 (Kd.R_lt (by (with_reducible repeat (first | apply Kd.R_alloc | apply Kd.R_drewN | apply Kd.R_drew)); exact HO104.out))) (Kd.R_lt (by (with_reducible repeat (first | apply Kd.R_alloc | apply Kd.R_drewN | apply Kd.R_drew)); exact HO108.out))) (below_size (by repeat (first | (with_reducible first | exact HB.out | apply below_alloc | apply pw_below_drewN | apply below_drew1) | exact HB.out)))); have n3_ := Aside0.mk (below_step (by repeat (first | (with_reducible first | exact HB.out | apply below_alloc | apply pw_below_drewN | apply below_drew1) | exact HB.out)) hb); clear HO104; clear HO108; clear HB; have HO104 := n0_; have HO108 := n1_; have HO111 := n2_; have HB := n3_; clear n0_ n1_ n2_ n3_; (try clear hb); (try clear hb2); (try clear hk); (try clear hi); (try clear ho0); obtain ⟨Ao15, co15, eo15⟩ := Kd.R_slice HO111.out; subst eo15) | ((with_reducible refine gate_callee (f := 27) rfl ?_); refine goesL_ (some 37) rfl rfl Try.func27 (by kernel_rfl) rfl #[.int .i64 a0, .slice Ao15 t109.length co15, .int .i64 a2] rfl (by (try simp only [List.map_toArray, List.map_cons, List.map_nil]); first | done | rfl | (simp only [List.length_drop, List.length_take]; rfl)) ?_; (with_reducible refine (impl_FlipDiagonal.calls a0 _ _ t109 a2 t112 t113 _ ?side1 ?side2 A9.out).mono ?_); (case side1 => repeat (first | exact (Kd.R_reads' HO111.out).2.2 | (with_reducible refine Kd.C_alloc ?_ _) | (with_reducible refine Kd.C_drewN ?_ _) | (with_reducible refine Kd.C_drew ?_))); (case side2 => exact (Kd.R_reads' HO111.out).2.1); rintro e w16 ⟨v114, rfl, ho0, hb⟩; refine ⟨_, rfl, ?_⟩; have n0_ := Aside0.mk (Kd.R_elder' (by (with_reducible repeat (first | apply Kd.R_alloc | apply Kd.R_drewN | apply Kd.R_drew)); exact HO104.out) (Kd.R_base ho0) hb); have n1_ := Aside0.mk (Kd.R_elder' (by (with_reducible repeat (first | apply Kd.R_alloc | apply Kd.R_drewN | apply Kd.R_drew)); exact HO108.out) (Kd.R_base ho0) hb); have n2_ := Aside0.mk (Kd.R_elder' (by (with_reducible repeat (first | apply Kd.R_alloc | apply Kd.R_drewN | apply Kd.R_drew)); exact HO111.out) (Kd.R_base ho0) hb); have n3_ := Aside0.mk (Kd.R_lower (Kd.R_new' (Kd.R_new' (Kd.R_new' ho0 (Kd.R_lt (by (with_reducible repeat (first | apply Kd.R_alloc | apply Kd.R_drewN | apply Kd.R_drew)); exact HO104.out))) (Kd.R_lt (by (with_reducible repeat (first | apply Kd.R_alloc | apply Kd.R_drewN | apply Kd.R_drew)); exact HO108.out))) (Kd.R_lt (by (with_reducible repeat (first | apply Kd.R_alloc | apply Kd.R_drewN | apply Kd.R_drew)); exact HO111.out))) (below_size (by repeat (first | (with_reducible first | exact HB.out | apply below_alloc | apply pw_below_drewN | apply below_drew1) | exact HB.out)))); have n4_ := Aside0.mk (below_step (by repeat (first | (with_reducible first | exact HB.out | apply below_alloc | apply pw_below_drewN | apply below_drew1) | exact HB.out)) hb); clear HO104; clear HO108; clear HO111; clear HB; have HO104 := n0_; have HO108 := n1_; have HO111 := n2_; have HO115 := n3_; have HB := n4_; clear n0_ n1_ n2_ n3_ n4_; (try clear hb); (try clear hb2); (try clear hk); (try clear hi); (try clear ho0)))
    (try simp only [Act.put, List.setIfInBounds_toArray, List.set_cons_zero, List.set_cons_succ])
    go_cut [48] (fun v48 wc => ∃ (kq : Nat) (x48_9 : Bool), v48 = .bool x48_9 ∧ Aside0 (laws_FnExactFlipDiagonal.j0 kq a0 l1 a2 t105 t106 t109 t112 t113 x48_9 = some r) ∧ Aside0 (kq ≤ k) ∧ Aside0 (Kd.R k64 64 wc w.heap.size (fun k_ => some k_ ≠ ((.slice Ao15 t109.length co15) : Value).ownBlock ∧ some k_ ≠ (v114 : Value).ownBlock) v107 t105) ∧ Aside0 (Kd.R k64 64 wc w.heap.size (fun k_ => some k_ ≠ (v107 : Value).ownBlock ∧ some k_ ≠ (v114 : Value).ownBlock) (.slice Ao15 t109.length co15) t109) ∧ Aside0 (Kd.R k64 64 wc w.heap.size (fun k_ => some k_ ≠ (v107 : Value).ownBlock ∧ some k_ ≠ ((.slice Ao15 t109.length co15) : Value).ownBlock) v114 t112) ∧ Aside0 (Below w.heap.size w wc))
    case first =>
      have H := HC10.out
      clear HC10
      replace H := Option.bind_eq_some_iff.mp H
      obtain ⟨t116, A170, H⟩ := H
      replace H : (if t116 = true then (laws_FnExactFlipDiagonal.j0 k a0 l1 a2 t105 t106 t109 t112 t113 (t113 != t106)) else (laws_FnExactFlipDiagonal.j0 k a0 l1 a2 t105 t106 t109 t112 t113 true)) = some r := H
      have A17 := Aside0.mk A170
      clear A170
      by_cases c18 : t116 = true
      · subst c18
        have H1 : (laws_FnExactFlipDiagonal.j0 k a0 l1 a2 t105 t106 t109 t112 t113 (t113 != t106)) = some r := by rw [if_pos rfl] at H; exact H
        clear H
        have H := H1
        clear H1
        have H' := Aside0.mk H
        clear H
        obtain ⟨Ao19, co19, eo19⟩ := Kd.R_slice HO115.out
        subst eo19
        obtain ⟨Ao20, co20, eo20⟩ := Kd.R_slice HO108.out
        subst eo20
        go_wp2_with (first | ((with_reducible refine gate_callee (f := 15) rfl ?_); refine goesL_ (some 42) rfl rfl Try.func15 (by kernel_rfl) rfl #[.slice Ao19 t112.length co19, .slice Ao20 t105.length co20] rfl (by (try simp only [List.map_toArray, List.map_cons, List.map_nil]); first | done | rfl | (simp only [List.length_drop, List.length_take]; rfl)) ?_; (with_reducible refine (laws_eqChordS.calls k _ _ t112 _ _ t105 true _ ?side1 ?side2 ?side3 ?side4 A17.out).mono ?_); (case side1 => repeat (first | exact (Kd.R_reads' HO115.out).2.2 | (with_reducible refine Kd.C_alloc ?_ _) | (with_reducible refine Kd.C_drewN ?_ _) | (with_reducible refine Kd.C_drew ?_))); (case side2 => exact (Kd.R_reads' HO115.out).2.1); (case side3 => repeat (first | exact (Kd.R_reads' HO108.out).2.2 | (with_reducible refine Kd.C_alloc ?_ _) | (with_reducible refine Kd.C_drewN ?_ _) | (with_reducible refine Kd.C_drew ?_))); (case side4 => exact (Kd.R_reads' HO108.out).2.1); rintro e w21 ⟨rfl, hb⟩; refine ⟨_, rfl, ?_⟩; have n0_ := Aside0.mk (Kd.R_below (by (with_reducible repeat (first | apply Kd.R_alloc | apply Kd.R_drewN | apply Kd.R_drew)); exact HO104.out) hb); have n1_ := Aside0.mk (Kd.R_below (by (with_reducible repeat (first | apply Kd.R_alloc | apply Kd.R_drewN | apply Kd.R_drew)); exact HO108.out) hb); have n2_ := Aside0.mk (Kd.R_below (by (with_reducible repeat (first | apply Kd.R_alloc | apply Kd.R_drewN | apply Kd.R_drew)); exact HO111.out) hb); have n3_ := Aside0.mk (Kd.R_below (by (with_reducible repeat (first | apply Kd.R_alloc | apply Kd.R_drewN | apply Kd.R_drew)); exact HO115.out) hb); have n4_ := Aside0.mk (below_step (by repeat (first | (with_reducible first | exact HB.out | apply below_alloc | apply pw_below_drewN | apply below_drew1) | exact HB.out)) hb); clear HO104; clear HO108; clear HO111; clear HO115; clear HB; have HO104 := n0_; have HO108 := n1_; have HO111 := n2_; have HO115 := n3_; have HB := n4_; clear n0_ n1_ n2_ n3_ n4_; (try clear hb); (try clear hb2); (try clear hk); (try clear hi)))
        go_meet
        case rel => exact ⟨_, ((t113 != t106)), (by first | rfl | (simp; done) | (simp [*]; done)), H', ⟨by first | omega | exact Nat.le_refl _⟩, ⟨by (with_reducible repeat (first | apply Kd.R_alloc | apply Kd.R_drewN | apply Kd.R_drew)); exact Kd.R_mono HO108.out (fun _ hk => ⟨hk.1.2, hk.2⟩)⟩, ⟨by (with_reducible repeat (first | apply Kd.R_alloc | apply Kd.R_drewN | apply Kd.R_drew)); exact Kd.R_mono HO111.out (fun _ hk => ⟨hk.1.2, hk.2⟩)⟩, ⟨by (with_reducible repeat (first | apply Kd.R_alloc | apply Kd.R_drewN | apply Kd.R_drew)); exact Kd.R_mono HO115.out (fun _ hk => ⟨hk.1.2, hk.2⟩)⟩, ⟨by repeat (first | (with_reducible first | exact HB.out | apply below_alloc | apply pw_below_drewN | apply below_drew1) | exact HB.out)⟩⟩
      · replace c18 := Bool.eq_false_iff.mpr c18
        subst c18
        have H1 : (laws_FnExactFlipDiagonal.j0 k a0 l1 a2 t105 t106 t109 t112 t113 true) = some r := by rw [if_neg (show ¬ (false = true) by decide)] at H; exact H
        clear H
        have H := H1
        clear H1
        have H' := Aside0.mk H
        clear H
        obtain ⟨Ao22, co22, eo22⟩ := Kd.R_slice HO115.out
        subst eo22
        obtain ⟨Ao23, co23, eo23⟩ := Kd.R_slice HO108.out
        subst eo23
        go_wp2_with (first | ((with_reducible refine gate_callee (f := 15) rfl ?_); refine goesL_ (some 42) rfl rfl Try.func15 (by kernel_rfl) rfl #[.slice Ao22 t112.length co22, .slice Ao23 t105.length co23] rfl (by (try simp only [List.map_toArray, List.map_cons, List.map_nil]); first | done | rfl | (simp only [List.length_drop, List.length_take]; rfl)) ?_; (with_reducible refine (laws_eqChordS.calls k _ _ t112 _ _ t105 false _ ?side1 ?side2 ?side3 ?side4 A17.out).mono ?_); (case side1 => repeat (first | exact (Kd.R_reads' HO115.out).2.2 | (with_reducible refine Kd.C_alloc ?_ _) | (with_reducible refine Kd.C_drewN ?_ _) | (with_reducible refine Kd.C_drew ?_))); (case side2 => exact (Kd.R_reads' HO115.out).2.1); (case side3 => repeat (first | exact (Kd.R_reads' HO108.out).2.2 | (with_reducible refine Kd.C_alloc ?_ _) | (with_reducible refine Kd.C_drewN ?_ _) | (with_reducible refine Kd.C_drew ?_))); (case side4 => exact (Kd.R_reads' HO108.out).2.1); rintro e w24 ⟨rfl, hb⟩; refine ⟨_, rfl, ?_⟩; have n0_ := Aside0.mk (Kd.R_below (by (with_reducible repeat (first | apply Kd.R_alloc | apply Kd.R_drewN | apply Kd.R_drew)); exact HO104.out) hb); have n1_ := Aside0.mk (Kd.R_below (by (with_reducible repeat (first | apply Kd.R_alloc | apply Kd.R_drewN | apply Kd.R_drew)); exact HO108.out) hb); have n2_ := Aside0.mk (Kd.R_below (by (with_reducible repeat (first | apply Kd.R_alloc | apply Kd.R_drewN | apply Kd.R_drew)); exact HO111.out) hb); have n3_ := Aside0.mk (Kd.R_below (by (with_reducible repeat (first | apply Kd.R_alloc | apply Kd.R_drewN | apply Kd.R_drew)); exact HO115.out) hb); have n4_ := Aside0.mk (below_step (by repeat (first | (with_reducible first | exact HB.out | apply below_alloc | apply pw_below_drewN | apply below_drew1) | exact HB.out)) hb); clear HO104; clear HO108; clear HO111; clear HO115; clear HB; have HO104 := n0_; have HO108 := n1_; have HO111 := n2_; have HO115 := n3_; have HB := n4_; clear n0_ n1_ n2_ n3_ n4_; (try clear hb); (try clear hb2); (try clear hk); (try clear hi)))
        go_meet
        case rel => exact ⟨_, (true), (by first | rfl | (simp; done) | (simp [*]; done)), H', ⟨by first | omega | exact Nat.le_refl _⟩, ⟨by (with_reducible repeat (first | apply Kd.R_alloc | apply Kd.R_drewN | apply Kd.R_drew)); exact Kd.R_mono HO108.out (fun _ hk => ⟨hk.1.2, hk.2⟩)⟩, ⟨by (with_reducible repeat (first | apply Kd.R_alloc | apply Kd.R_drewN | apply Kd.R_drew)); exact Kd.R_mono HO111.out (fun _ hk => ⟨hk.1.2, hk.2⟩)⟩, ⟨by (with_reducible repeat (first | apply Kd.R_alloc | apply Kd.R_drewN | apply Kd.R_drew)); exact Kd.R_mono HO115.out (fun _ hk => ⟨hk.1.2, hk.2⟩)⟩, ⟨by repeat (first | (with_reducible first | exact HB.out | apply below_alloc | apply pw_below_drewN | apply below_drew1) | exact HB.out)⟩⟩
    case rest =>
      clear HC10
      try clear c1
      try clear c2
      try clear p2
      try clear c5
      try clear c5b0
      try clear c6
      try clear c10
      try clear c12
      try clear c15
      try clear c18
      obtain ⟨kq, x48_9, rfl, HA, HJ9, HO_8, HO_10, HO_11, HB⟩ := hcut
      cases kq with
      | zero => exact absurd HA.out (by simp [laws_FnExactFlipDiagonal.j0])
      | succ kj9 =>
        have H := HA.out
        clear HA
        simp only [laws_FnExactFlipDiagonal.j0] at H
        by_cases c25 : x48_9 = true
        · subst c25
          have H1 : (some false) = some r := by rw [if_pos rfl] at H; exact H
          clear H
          have H := H1
          clear H1
          obtain rfl := Option.some.inj H
          go_wp2
          go_ret
          exact ⟨by first | rfl | (simp [errW_none, errW_some] <;> rfl) | (simp [*, errW_none, errW_some] <;> rfl), by repeat (first | (with_reducible first | exact HB.out | apply below_alloc | apply pw_below_drewN | apply below_drew1) | exact HB.out)⟩
        · replace c25 := Bool.eq_false_iff.mpr c25
          subst c25
          have H1 : ((laws_toChordS.f kj9 l1).bind fun t117 => ((laws_eqChordS.f kj9 t109 t117).bind fun t120 => (if t120 = true then ((laws_markChordS.f kj9 t109 1).bind fun bt121 => (if bt121.1 < 0 then (laws_FnExactFlipDiagonal.j1 kj9 a0 l1 a2 t105 t106 t112 true) else ((laws_eqChordS.f kj9 t112 t105).bind fun t123 => (if t123 = true then (laws_FnExactFlipDiagonal.j1 kj9 a0 l1 a2 t105 t106 t112 (t113 != t106)) else (laws_FnExactFlipDiagonal.j1 kj9 a0 l1 a2 t105 t106 t112 true))))) else (some false)))) = some r := by rw [if_neg (show ¬ (false = true) by decide)] at H; exact H
          clear H
          have H := H1
          clear H1
          replace H := Option.bind_eq_some_iff.mp H
          obtain ⟨t117, A260, H⟩ := H
          replace H : ((laws_eqChordS.f kj9 t109 t117).bind fun t120 => (if t120 = true then ((laws_markChordS.f kj9 t109 1).bind fun bt121 => (if bt121.1 < 0 then (laws_FnExactFlipDiagonal.j1 kj9 a0 l1 a2 t105 t106 t112 true) else ((laws_eqChordS.f kj9 t112 t105).bind fun t123 => (if t123 = true then (laws_FnExactFlipDiagonal.j1 kj9 a0 l1 a2 t105 t106 t112 (t113 != t106)) else (laws_FnExactFlipDiagonal.j1 kj9 a0 l1 a2 t105 t106 t112 true))))) else (some false))) = some r := H
          have A26 := Aside0.mk A260
          clear A260
          replace H := Option.bind_eq_some_iff.mp H
          obtain ⟨t120, A270, H⟩ := H
          replace H : (if t120 = true then ((laws_markChordS.f kj9 t109 1).bind fun bt121 => (if bt121.1 < 0 then (laws_FnExactFlipDiagonal.j1 kj9 a0 l1 a2 t105 t106 t112 true) else ((laws_eqChordS.f kj9 t112 t105).bind fun t123 => (if t123 = true then (laws_FnExactFlipDiagonal.j1 kj9 a0 l1 a2 t105 t106 t112 (t113 != t106)) else (laws_FnExactFlipDiagonal.j1 kj9 a0 l1 a2 t105 t106 t112 true))))) else (some false)) = some r := H
          have A27 := Aside0.mk A270
          clear A270
          by_cases c28 : t120 = true
          · subst c28
            have H1 : ((laws_markChordS.f kj9 t109 1).bind fun bt121 => (if bt121.1 < 0 then (laws_FnExactFlipDiagonal.j1 kj9 a0 l1 a2 t105 t106 t112 true) else ((laws_eqChordS.f kj9 t112 t105).bind fun t123 => (if t123 = true then (laws_FnExactFlipDiagonal.j1 kj9 a0 l1 a2 t105 t106 t112 (t113 != t106)) else (laws_FnExactFlipDiagonal.j1 kj9 a0 l1 a2 t105 t106 t112 true))))) = some r := by rw [if_pos rfl] at H; exact H
            clear H
            have H := H1
            clear H1
            replace H := Option.bind_eq_some_iff.mp H
            obtain ⟨⟨t121, t122⟩, A290, H⟩ := H
            replace H : (if t121 < 0 then (laws_FnExactFlipDiagonal.j1 kj9 a0 l1 a2 t105 t106 t112 true) else ((laws_eqChordS.f kj9 t112 t105).bind fun t123 => (if t123 = true then (laws_FnExactFlipDiagonal.j1 kj9 a0 l1 a2 t105 t106 t112 (t113 != t106)) else (laws_FnExactFlipDiagonal.j1 kj9 a0 l1 a2 t105 t106 t112 true)))) = some r := H
            have A29 := Aside0.mk A290
            clear A290
            have HC30 := Aside0.mk H
            clear H
            go_upto_region 14 with (first | ((with_reducible refine gate_callee (f := 12) rfl ?_); refine goesL_ (some 51) rfl rfl Try.func12 (by kernel_rfl) rfl #[.slice A1 l1.length c1] rfl (by (try simp only [List.map_toArray, List.map_cons, List.map_nil]); first | done | rfl | (simp only [List.length_drop, List.length_take]; rfl)) ?_; (with_reducible refine (laws_toChordS.calls kj9 _ _ l1 t117 _ ?side1 ?side2 A26.out).mono ?_); (case side1 => repeat (first | exact (Kd.C_below HR1.out HB.out) | (with_reducible refine Kd.C_alloc ?_ _) | (with_reducible refine Kd.C_drewN ?_ _) | (with_reducible refine Kd.C_drew ?_))); (case side2 => exact HC1.out); rintro e w31 ⟨v118, rfl, ho0, hb⟩; refine ⟨_, rfl, ?_⟩; have n0_ := Aside0.mk (Kd.R_elder' (by (with_reducible repeat (first | apply Kd.R_alloc | apply Kd.R_drewN | apply Kd.R_drew)); exact HO_8.out) (Kd.R_base ho0) hb); have n1_ := Aside0.mk (Kd.R_elder' (by (with_reducible repeat (first | apply Kd.R_alloc | apply Kd.R_drewN | apply Kd.R_drew)); exact HO_10.out) (Kd.R_base ho0) hb); have n2_ := Aside0.mk (Kd.R_elder' (by (with_reducible repeat (first | apply Kd.R_alloc | apply Kd.R_drewN | apply Kd.R_drew)); exact HO_11.out) (Kd.R_base ho0) hb); have n3_ := Aside0.mk (Kd.R_lower (Kd.R_new' (Kd.R_new' (Kd.R_new' ho0 (Kd.R_lt (by (with_reducible repeat (first | apply Kd.R_alloc | apply Kd.R_drewN | apply Kd.R_drew)); exact HO_8.out))) (Kd.R_lt (by (with_reducible repeat (first | apply Kd.R_alloc | apply Kd.R_drewN | apply Kd.R_drew)); exact HO_10.out))) (Kd.R_lt (by (with_reducible repeat (first | apply Kd.R_alloc | apply Kd.R_drewN | apply Kd.R_drew)); exact HO_11.out))) (below_size (by repeat (first | (with_reducible first | exact HB.out | apply below_alloc | apply pw_below_drewN | apply below_drew1) | exact HB.out)))); have n4_ := Aside0.mk (below_step (by repeat (first | (with_reducible first | exact HB.out | apply below_alloc | apply pw_below_drewN | apply below_drew1) | exact HB.out)) hb); clear HO_8; clear HO_10; clear HO_11; clear HB; have HO_8 := n0_; have HO_10 := n1_; have HO_11 := n2_; have HO119 := n3_; have HB := n4_; clear n0_ n1_ n2_ n3_ n4_; (try clear hb); (try clear hb2); (try clear hk); (try clear hi); (try clear ho0); obtain ⟨Ao32, co32, eo32⟩ := Kd.R_slice HO119.out; subst eo32) | ((with_reducible refine gate_callee (f := 15) rfl ?_); refine goesL_ (some 52) rfl rfl Try.func15 (by kernel_rfl) rfl #[.slice Ao15 t109.length co15, .slice Ao32 t117.length co32] rfl (by (try simp only [List.map_toArray, List.map_cons, List.map_nil]); first | done | rfl | (simp only [List.length_drop, List.length_take]; rfl)) ?_; (with_reducible refine (laws_eqChordS.calls kj9 _ _ t109 _ _ t117 true _ ?side1 ?side2 ?side3 ?side4 A27.out).mono ?_); (case side1 => repeat (first | exact (Kd.R_reads' HO_10.out).2.2 | (with_reducible refine Kd.C_alloc ?_ _) | (with_reducible refine Kd.C_drewN ?_ _) | (with_reducible refine Kd.C_drew ?_))); (case side2 => exact (Kd.R_reads' HO_10.out).2.1); (case side3 => repeat (first | exact (Kd.R_reads' HO119.out).2.2 | (with_reducible refine Kd.C_alloc ?_ _) | (with_reducible refine Kd.C_drewN ?_ _) | (with_reducible refine Kd.C_drew ?_))); (case side4 => exact (Kd.R_reads' HO119.out).2.1); rintro e w33 ⟨rfl, hb⟩; refine ⟨_, rfl, ?_⟩; have n0_ := Aside0.mk (Kd.R_below (by (with_reducible repeat (first | apply Kd.R_alloc | apply Kd.R_drewN | apply Kd.R_drew)); exact HO_8.out) hb); have n1_ := Aside0.mk (Kd.R_below (by (with_reducible repeat (first | apply Kd.R_alloc | apply Kd.R_drewN | apply Kd.R_drew)); exact HO_10.out) hb); have n2_ := Aside0.mk (Kd.R_below (by (with_reducible repeat (first | apply Kd.R_alloc | apply Kd.R_drewN | apply Kd.R_drew)); exact HO_11.out) hb); have n3_ := Aside0.mk (Kd.R_below (by (with_reducible repeat (first | apply Kd.R_alloc | apply Kd.R_drewN | apply Kd.R_drew)); exact HO119.out) hb); have n4_ := Aside0.mk (below_step (by repeat (first | (with_reducible first | exact HB.out | apply below_alloc | apply pw_below_drewN | apply below_drew1) | exact HB.out)) hb); clear HO_8; clear HO_10; clear HO_11; clear HO119; clear HB; have HO_8 := n0_; have HO_10 := n1_; have HO_11 := n2_; have HO119 := n3_; have HB := n4_; clear n0_ n1_ n2_ n3_ n4_; (try clear hb); (try clear hb2); (try clear hk); (try clear hi)) | ((with_reducible refine gate_callee (f := 16) rfl ?_); refine goesL_ (some 56) rfl rfl Try.func16 (by kernel_rfl) rfl #[.slice Ao15 t109.length co15, .int .i64 1] rfl (by (try simp only [List.map_toArray, List.map_cons, List.map_nil]); first | done | rfl | (simp only [List.length_drop, List.length_take]; rfl)) ?_; (with_reducible refine (laws_markChordS.calls kj9 (fun k_ => some k_ = (.slice Ao15 t109.length co15 : Value).ownBlock) (.slice Ao15 t109.length co15) t109 1 t121 t122 w _ ?side1 ?side2 A29.out).mono ?_); (case side1 => repeat (first | (with_reducible first | exact HB.out | apply below_alloc | apply pw_below_drewN | apply below_drew1) | exact HB.out)); (case side2 => exact Kd.R_tight rfl HO_10.out); rintro e w34 ⟨rfl, hy0, hb, hkp⟩; refine ⟨_, rfl, ?_⟩; have n0_ := Aside0.mk (Kd.R_mono (ok' := fun k_ => some k_ ≠ (.slice Ao15 t109.length co15 : Value).ownBlock ∧ some k_ ≠ (v114 : Value).ownBlock ∧ some k_ ≠ (.slice Ao32 t117.length co32 : Value).ownBlock) (Kd.R_keptB (HO_8.out) hkp (fun k_ hk_ hs_ => (hk_.1.1) hs_)) (fun k_ hk_ => ⟨hk_.1.1.1, hk_.1.1.2, hk_.1.2⟩)); have n1_ := Aside0.mk (Kd.R_reok rfl hy0 (fun k_ e_ => HO_10.out.1 k_ e_)); have n2_ := Aside0.mk (Kd.R_mono (ok' := fun k_ => some k_ ≠ (v107 : Value).ownBlock ∧ some k_ ≠ (.slice Ao15 t109.length co15 : Value).ownBlock ∧ some k_ ≠ (.slice Ao32 t117.length co32 : Value).ownBlock) (Kd.R_keptB (HO_11.out) hkp (fun k_ hk_ hs_ => (hk_.1.2) hs_)) (fun k_ hk_ => ⟨hk_.1.1.1, hk_.1.1.2, hk_.1.2⟩)); have n3_ := Aside0.mk (Kd.R_mono (ok' := fun k_ => some k_ ≠ (v107 : Value).ownBlock ∧ some k_ ≠ (.slice Ao15 t109.length co15 : Value).ownBlock ∧ some k_ ≠ (v114 : Value).ownBlock) (Kd.R_keptB (HO119.out) hkp (fun k_ hk_ hs_ => (hk_.1.2) hs_)) (fun k_ hk_ => ⟨hk_.1.1.1.2, hk_.1.1.2, hk_.1.2⟩)); have n4_ := Aside0.mk (hb); clear HO_8; clear HO_10; clear HO_11; clear HO119; clear HB; have HO_8 := n0_; have HO_10 := n1_; have HO_11 := n2_; have HO119 := n3_; have HB := n4_; clear n0_ n1_ n2_ n3_ n4_; (try clear hb); (try clear hkp); (try clear hy0)))
            (try simp only [Act.put, List.setIfInBounds_toArray, List.set_cons_zero, List.set_cons_succ])
            go_cut [69] (fun v69 wc => ∃ (kq : Nat) (x69_29 : Bool), v69 = .bool x69_29 ∧ Aside0 (laws_FnExactFlipDiagonal.j1 kq a0 l1 a2 t105 t106 t112 x69_29 = some r) ∧ Aside0 (kq ≤ kj9) ∧ Aside0 (Kd.R k64 64 wc w.heap.size (fun k_ => some k_ ≠ (v114 : Value).ownBlock) v107 t105) ∧ Aside0 (Kd.R k64 64 wc w.heap.size (fun k_ => some k_ ≠ (v107 : Value).ownBlock) v114 t112) ∧ Aside0 (Below w.heap.size w wc))
            case first =>
              have H := HC30.out
              clear HC30
              by_cases c35 : t121 < 0
              · rw [if_pos c35] at H
                have c35b0 : decide (t121 < 0) = true := decide_eq_true c35
                clear c35
                (first | rw [c35b0] | (simp only [i64_w, i32_w]; rw [c35b0]) | skip)
                have H' := Aside0.mk H
                clear H
                go_wp2
                go_meet
                case rel => exact ⟨_, (true), (by first | rfl | (simp; done) | (simp [*]; done)), H', ⟨by have := HJ9.out; first | omega | exact Nat.le_refl _⟩, ⟨by (with_reducible repeat (first | apply Kd.R_alloc | apply Kd.R_drewN | apply Kd.R_drew)); exact Kd.R_mono HO_8.out (fun _ hk => hk.2.1)⟩, ⟨by (with_reducible repeat (first | apply Kd.R_alloc | apply Kd.R_drewN | apply Kd.R_drew)); exact Kd.R_mono HO_11.out (fun _ hk => hk.1)⟩, ⟨by repeat (first | (with_reducible first | exact HB.out | apply below_alloc | apply pw_below_drewN | apply below_drew1) | exact HB.out)⟩⟩
              · rw [if_neg c35] at H
                have c35b0 : decide (t121 < 0) = false := decide_eq_false c35
                clear c35
                (first | rw [c35b0] | (simp only [i64_w, i32_w]; rw [c35b0]) | skip)
                replace H := Option.bind_eq_some_iff.mp H
                obtain ⟨t123, A360, H⟩ := H
                replace H : (if t123 = true then (laws_FnExactFlipDiagonal.j1 kj9 a0 l1 a2 t105 t106 t112 (t113 != t106)) else (laws_FnExactFlipDiagonal.j1 kj9 a0 l1 a2 t105 t106 t112 true)) = some r := H
                have A36 := Aside0.mk A360
                clear A360
                by_cases c37 : t123 = true
                · subst c37
                  have H1 : (laws_FnExactFlipDiagonal.j1 kj9 a0 l1 a2 t105 t106 t112 (t113 != t106)) = some r := by rw [if_pos rfl] at H; exact H
                  clear H
                  have H := H1
                  clear H1
                  have H' := Aside0.mk H
                  clear H
                  obtain ⟨Ao38, co38, eo38⟩ := Kd.R_slice HO_11.out
                  subst eo38
                  obtain ⟨Ao39, co39, eo39⟩ := Kd.R_slice HO_8.out
                  subst eo39
                  go_wp2_with (first | (go_at_call 15; (with_reducible refine (laws_eqChordS.calls kj9 _ _ t112 _ _ t105 true _ ?side1 ?side2 ?side3 ?side4 A36.out).mono ?_); (case side1 => repeat (first | exact (Kd.R_reads' HO_11.out).2.2 | (with_reducible refine Kd.C_alloc ?_ _) | (with_reducible refine Kd.C_drewN ?_ _) | (with_reducible refine Kd.C_drew ?_))); (case side2 => exact (Kd.R_reads' HO_11.out).2.1); (case side3 => repeat (first | exact (Kd.R_reads' HO_8.out).2.2 | (with_reducible refine Kd.C_alloc ?_ _) | (with_reducible refine Kd.C_drewN ?_ _) | (with_reducible refine Kd.C_drew ?_))); (case side4 => exact (Kd.R_reads' HO_8.out).2.1); rintro e w40 ⟨rfl, hb⟩; have n0_ := Aside0.mk (Kd.R_below (by (with_reducible repeat (first | apply Kd.R_alloc | apply Kd.R_drewN | apply Kd.R_drew)); exact HO_8.out) hb); have n1_ := Aside0.mk (Kd.R_below (by (with_reducible repeat (first | apply Kd.R_alloc | apply Kd.R_drewN | apply Kd.R_drew)); exact HO_10.out) hb); have n2_ := Aside0.mk (Kd.R_below (by (with_reducible repeat (first | apply Kd.R_alloc | apply Kd.R_drewN | apply Kd.R_drew)); exact HO_11.out) hb); have n3_ := Aside0.mk (Kd.R_below (by (with_reducible repeat (first | apply Kd.R_alloc | apply Kd.R_drewN | apply Kd.R_drew)); exact HO119.out) hb); have n4_ := Aside0.mk (below_step (by repeat (first | (with_reducible first | exact HB.out | apply below_alloc | apply pw_below_drewN | apply below_drew1) | exact HB.out)) hb); clear HO_8; clear HO_10; clear HO_11; clear HO119; clear HB; have HO_8 := n0_; have HO_10 := n1_; have HO_11 := n2_; have HO119 := n3_; have HB := n4_; clear n0_ n1_ n2_ n3_ n4_; (try clear hb); (try clear hb2); (try clear hk); (try clear hi)))
                  go_meet
                  case rel => exact ⟨_, ((t113 != t106)), (by first | rfl | (simp; done) | (simp [*]; done)), H', ⟨by have := HJ9.out; first | omega | exact Nat.le_refl _⟩, ⟨by (with_reducible repeat (first | apply Kd.R_alloc | apply Kd.R_drewN | apply Kd.R_drew)); exact Kd.R_mono HO_8.out (fun _ hk => hk.2.1)⟩, ⟨by (with_reducible repeat (first | apply Kd.R_alloc | apply Kd.R_drewN | apply Kd.R_drew)); exact Kd.R_mono HO_11.out (fun _ hk => hk.1)⟩, ⟨by repeat (first | (with_reducible first | exact HB.out | apply below_alloc | apply pw_below_drewN | apply below_drew1) | exact HB.out)⟩⟩
                · replace c37 := Bool.eq_false_iff.mpr c37
                  subst c37
                  have H1 : (laws_FnExactFlipDiagonal.j1 kj9 a0 l1 a2 t105 t106 t112 true) = some r := by rw [if_neg (show ¬ (false = true) by decide)] at H; exact H
                  clear H
                  have H := H1
                  clear H1
                  have H' := Aside0.mk H
                  clear H
                  obtain ⟨Ao41, co41, eo41⟩ := Kd.R_slice HO_11.out
                  subst eo41
                  obtain ⟨Ao42, co42, eo42⟩ := Kd.R_slice HO_8.out
                  subst eo42
                  go_wp2_with (first | (go_at_call 15; (with_reducible refine (laws_eqChordS.calls kj9 _ _ t112 _ _ t105 false _ ?side1 ?side2 ?side3 ?side4 A36.out).mono ?_); (case side1 => repeat (first | exact (Kd.R_reads' HO_11.out).2.2 | (with_reducible refine Kd.C_alloc ?_ _) | (with_reducible refine Kd.C_drewN ?_ _) | (with_reducible refine Kd.C_drew ?_))); (case side2 => exact (Kd.R_reads' HO_11.out).2.1); (case side3 => repeat (first | exact (Kd.R_reads' HO_8.out).2.2 | (with_reducible refine Kd.C_alloc ?_ _) | (with_reducible refine Kd.C_drewN ?_ _) | (with_reducible refine Kd.C_drew ?_))); (case side4 => exact (Kd.R_reads' HO_8.out).2.1); rintro e w43 ⟨rfl, hb⟩; have n0_ := Aside0.mk (Kd.R_below (by (with_reducible repeat (first | apply Kd.R_alloc | apply Kd.R_drewN | apply Kd.R_drew)); exact HO_8.out) hb); have n1_ := Aside0.mk (Kd.R_below (by (with_reducible repeat (first | apply Kd.R_alloc | apply Kd.R_drewN | apply Kd.R_drew)); exact HO_10.out) hb); have n2_ := Aside0.mk (Kd.R_below (by (with_reducible repeat (first | apply Kd.R_alloc | apply Kd.R_drewN | apply Kd.R_drew)); exact HO_11.out) hb); have n3_ := Aside0.mk (Kd.R_below (by (with_reducible repeat (first | apply Kd.R_alloc | apply Kd.R_drewN | apply Kd.R_drew)); exact HO119.out) hb); have n4_ := Aside0.mk (below_step (by repeat (first | (with_reducible first | exact HB.out | apply below_alloc | apply pw_below_drewN | apply below_drew1) | exact HB.out)) hb); clear HO_8; clear HO_10; clear HO_11; clear HO119; clear HB; have HO_8 := n0_; have HO_10 := n1_; have HO_11 := n2_; have HO119 := n3_; have HB := n4_; clear n0_ n1_ n2_ n3_ n4_; (try clear hb); (try clear hb2); (try clear hk); (try clear hi)))
                  go_meet
                  case rel => exact ⟨_, (true), (by first | rfl | (simp; done) | (simp [*]; done)), H', ⟨by have := HJ9.out; first | omega | exact Nat.le_refl _⟩, ⟨by (with_reducible repeat (first | apply Kd.R_alloc | apply Kd.R_drewN | apply Kd.R_drew)); exact Kd.R_mono HO_8.out (fun _ hk => hk.2.1)⟩, ⟨by (with_reducible repeat (first | apply Kd.R_alloc | apply Kd.R_drewN | apply Kd.R_drew)); exact Kd.R_mono HO_11.out (fun _ hk => hk.1)⟩, ⟨by repeat (first | (with_reducible first | exact HB.out | apply below_alloc | apply pw_below_drewN | apply below_drew1) | exact HB.out)⟩⟩
            case rest =>
              clear HC30
              try clear c1
              try clear c2
              try clear p2
              try clear c3
              try clear c5
              try clear c5b0
              try clear c6
              try clear c10
              try clear c12
              try clear c15
              try clear c16
              try clear c18
              try clear c25
              try clear c26
              try clear c27
              try clear c28
              try clear c35
              try clear c35b0
              try clear c37
              try clear p2
              obtain ⟨kq, x69_29, rfl, HA, HJ29, HO_8, HO_11, HB⟩ := hcut
              cases kq with
              | zero => exact absurd HA.out (by simp [laws_FnExactFlipDiagonal.j1])
              | succ kj29 =>
                have H := HA.out
                clear HA
                simp only [laws_FnExactFlipDiagonal.j1] at H
                by_cases c44 : x69_29 = true
                · subst c44
                  have H1 : (some false) = some r := by rw [if_pos rfl] at H; exact H
                  clear H
                  have H := H1
                  clear H1
                  obtain rfl := Option.some.inj H
                  go_wp2
                  go_ret
                  exact ⟨by first | rfl | (simp [errW_none, errW_some] <;> rfl) | (simp [*, errW_none, errW_some] <;> rfl), by repeat (first | (with_reducible first | exact HB.out | apply below_alloc | apply pw_below_drewN | apply below_drew1) | exact HB.out)⟩
                · replace c44 := Bool.eq_false_iff.mpr c44
                  subst c44
                  have H1 : ((laws_markChordS.f kj29 t112 1).bind fun bt124 => ((laws_heldChordS.f kj29 bt124.2 1).bind fun t126 => (if t126 < 0 then (some false) else (if t126 = bt124.1 then ((laws_toChordS.f kj29 l1).bind fun t127 => ((impl_FlipDiagonal.f a0 t127 a2).bind fun bt130 => ((laws_eqChordS.f kj29 bt130.1 t105).bind fun t134 => (if t134 = true then (laws_FnExactFlipDiagonal.j2 kj29 bt124.2 bt124.1 (bt130.2 != t106)) else (laws_FnExactFlipDiagonal.j2 kj29 bt124.2 bt124.1 true))))) else (some false))))) = some r := by rw [if_neg (show ¬ (false = true) by decide)] at H; exact H
                  clear H
                  have H := H1
                  clear H1
                  replace H := Option.bind_eq_some_iff.mp H
                  obtain ⟨⟨t124, t125⟩, A450, H⟩ := H
                  replace H : ((laws_heldChordS.f kj29 t125 1).bind fun t126 => (if t126 < 0 then (some false) else (if t126 = t124 then ((laws_toChordS.f kj29 l1).bind fun t127 => ((impl_FlipDiagonal.f a0 t127 a2).bind fun bt130 => ((laws_eqChordS.f kj29 bt130.1 t105).bind fun t134 => (if t134 = true then (laws_FnExactFlipDiagonal.j2 kj29 t125 t124 (bt130.2 != t106)) else (laws_FnExactFlipDiagonal.j2 kj29 t125 t124 true))))) else (some false)))) = some r := H
                  have A45 := Aside0.mk A450
                  clear A450
                  replace H := Option.bind_eq_some_iff.mp H
                  obtain ⟨t126, A460, H⟩ := H
                  replace H : (if t126 < 0 then (some false) else (if t126 = t124 then ((laws_toChordS.f kj29 l1).bind fun t127 => ((impl_FlipDiagonal.f a0 t127 a2).bind fun bt130 => ((laws_eqChordS.f kj29 bt130.1 t105).bind fun t134 => (if t134 = true then (laws_FnExactFlipDiagonal.j2 kj29 t125 t124 (bt130.2 != t106)) else (laws_FnExactFlipDiagonal.j2 kj29 t125 t124 true))))) else (some false))) = some r := H
                  have A46 := Aside0.mk A460
                  clear A460
                  by_cases c47 : t126 < 0
                  · rw [if_pos c47] at H
                    have c47b0 : decide (t126 < 0) = true := decide_eq_true c47
                    clear c47
                    obtain rfl := Option.some.inj H
                    obtain ⟨Ao48, co48, eo48⟩ := Kd.R_slice HO_11.out
                    subst eo48
                    go_wp2_with (first | ((with_reducible refine gate_callee (f := 16) rfl ?_); refine goesL_ (some 72) rfl rfl Try.func16 (by kernel_rfl) rfl #[.slice Ao48 t112.length co48, .int .i64 1] rfl (by (try simp only [List.map_toArray, List.map_cons, List.map_nil]); first | done | rfl | (simp only [List.length_drop, List.length_take]; rfl)) ?_; (with_reducible refine (laws_markChordS.calls kj29 (fun k_ => some k_ = (.slice Ao48 t112.length co48 : Value).ownBlock) (.slice Ao48 t112.length co48) t112 1 t124 t125 w _ ?side1 ?side2 A45.out).mono ?_); (case side1 => repeat (first | (with_reducible first | exact HB.out | apply below_alloc | apply pw_below_drewN | apply below_drew1) | exact HB.out)); (case side2 => exact Kd.R_tight rfl HO_11.out); rintro e w49 ⟨rfl, hy0, hb, hkp⟩; refine ⟨_, rfl, ?_⟩; have n0_ := Aside0.mk (Kd.R_mono (ok' := fun k_ => some k_ ≠ (.slice Ao48 t112.length co48 : Value).ownBlock) (Kd.R_keptB (HO_8.out) hkp (fun k_ hk_ hs_ => (hk_) hs_)) (fun k_ hk_ => hk_.1)); have n1_ := Aside0.mk (Kd.R_reok rfl hy0 (fun k_ e_ => HO_11.out.1 k_ e_)); have n2_ := Aside0.mk (hb); clear HO_8; clear HO_11; clear HB; have HO_8 := n0_; have HO_11 := n1_; have HB := n2_; clear n0_ n1_ n2_; (try clear hb); (try clear hkp); (try clear hy0)) | ((with_reducible refine gate_callee (f := 28) rfl ?_); refine goesL_ (some 75) rfl rfl Try.func28 (by kernel_rfl) rfl #[.slice Ao48 t125.length co48, .int .i64 1] rfl (by (try simp only [List.map_toArray, List.map_cons, List.map_nil]); first | done | (rw [show t125.length = t112.length from (Kd.R_reads' HO_11.out).1.symm] <;> rfl) | rfl | (simp only [List.length_drop, List.length_take]; rfl)) ?_; (with_reducible refine (laws_heldChordS.calls kj29 _ _ t125 1 t126 _ ?side1 ?side2 A46.out).mono ?_); (case side1 => repeat (first | exact (Kd.R_reads' HO_11.out).2.2 | (with_reducible refine Kd.C_alloc ?_ _) | (with_reducible refine Kd.C_drewN ?_ _) | (with_reducible refine Kd.C_drew ?_))); (case side2 => rw [show t125.length = t112.length from (Kd.R_reads' HO_11.out).1.symm]; exact (Kd.R_reads' HO_11.out).2.1); rintro e w' ⟨rfl, ⟨nd, rfl⟩⟩; refine ⟨_, rfl, ?_⟩))
                    go_ret
                    exact ⟨by first | rfl | (simp [errW_none, errW_some] <;> rfl) | (simp [*, errW_none, errW_some] <;> rfl), by repeat (first | (with_reducible first | exact HB.out | apply below_alloc | apply pw_below_drewN | apply below_drew1) | exact HB.out)⟩
                  · rw [if_neg c47] at H
                    have c47b0 : decide (t126 < 0) = false := decide_eq_false c47
                    clear c47
                    by_cases c50 : t126 = t124
                    · rw [if_pos c50] at H
                      have c50b0 : (t126 == t124) = true := beq_iff_eq.mpr c50
                      have c50b1 : (t126 != t124) = false := bne_eq_false_iff_eq.mpr c50
                      clear c50
                      replace H := Option.bind_eq_some_iff.mp H
                      obtain ⟨t127, A510, H⟩ := H
                      replace H : ((impl_FlipDiagonal.f a0 t127 a2).bind fun bt130 => ((laws_eqChordS.f kj29 bt130.1 t105).bind fun t134 => (if t134 = true then (laws_FnExactFlipDiagonal.j2 kj29 t125 t124 (bt130.2 != t106)) else (laws_FnExactFlipDiagonal.j2 kj29 t125 t124 true)))) = some r := H
                      have A51 := Aside0.mk A510
                      clear A510
                      replace H := Option.bind_eq_some_iff.mp H
                      obtain ⟨⟨t130, t131⟩, A520, H⟩ := H
                      replace H : ((laws_eqChordS.f kj29 t130 t105).bind fun t134 => (if t134 = true then (laws_FnExactFlipDiagonal.j2 kj29 t125 t124 (t131 != t106)) else (laws_FnExactFlipDiagonal.j2 kj29 t125 t124 true))) = some r := H
                      have A52 := Aside0.mk A520
                      clear A520
                      have HC53 := Aside0.mk H
                      clear H
                      obtain ⟨Ao54, co54, eo54⟩ := Kd.R_slice HO_11.out
                      subst eo54
                      go_upto_region 25 with (first | ((with_reducible refine gate_callee (f := 16) rfl ?_); refine goesL_ (some 72) rfl rfl Try.func16 (by kernel_rfl) rfl #[.slice Ao54 t112.length co54, .int .i64 1] rfl (by (try simp only [List.map_toArray, List.map_cons, List.map_nil]); first | done | rfl | (simp only [List.length_drop, List.length_take]; rfl)) ?_; (with_reducible refine (laws_markChordS.calls kj29 (fun k_ => some k_ = (.slice Ao54 t112.length co54 : Value).ownBlock) (.slice Ao54 t112.length co54) t112 1 t124 t125 w _ ?side1 ?side2 A45.out).mono ?_); (case side1 => repeat (first | (with_reducible first | exact HB.out | apply below_alloc | apply pw_below_drewN | apply below_drew1) | exact HB.out)); (case side2 => exact Kd.R_tight rfl HO_11.out); rintro e w55 ⟨rfl, hy0, hb, hkp⟩; refine ⟨_, rfl, ?_⟩; have n0_ := Aside0.mk (Kd.R_mono (ok' := fun k_ => some k_ ≠ (.slice Ao54 t112.length co54 : Value).ownBlock) (Kd.R_keptB (HO_8.out) hkp (fun k_ hk_ hs_ => (hk_) hs_)) (fun k_ hk_ => hk_.1)); have n1_ := Aside0.mk (Kd.R_reok rfl hy0 (fun k_ e_ => HO_11.out.1 k_ e_)); have n2_ := Aside0.mk (hb); clear HO_8; clear HO_11; clear HB; have HO_8 := n0_; have HO_11 := n1_; have HB := n2_; clear n0_ n1_ n2_; (try clear hb); (try clear hkp); (try clear hy0)) | ((with_reducible refine gate_callee (f := 28) rfl ?_); refine goesL_ (some 75) rfl rfl Try.func28 (by kernel_rfl) rfl #[.slice Ao54 t125.length co54, .int .i64 1] rfl (by (try simp only [List.map_toArray, List.map_cons, List.map_nil]); first | done | (rw [show t125.length = t112.length from (Kd.R_reads' HO_11.out).1.symm] <;> rfl) | rfl | (simp only [List.length_drop, List.length_take]; rfl)) ?_; (with_reducible refine (laws_heldChordS.calls kj29 _ _ t125 1 t126 _ ?side1 ?side2 A46.out).mono ?_); (case side1 => repeat (first | exact (Kd.R_reads' HO_11.out).2.2 | (with_reducible refine Kd.C_alloc ?_ _) | (with_reducible refine Kd.C_drewN ?_ _) | (with_reducible refine Kd.C_drew ?_))); (case side2 => rw [show t125.length = t112.length from (Kd.R_reads' HO_11.out).1.symm]; exact (Kd.R_reads' HO_11.out).2.1); rintro e w' ⟨rfl, ⟨nd, rfl⟩⟩; refine ⟨_, rfl, ?_⟩) | ((with_reducible refine gate_callee (f := 12) rfl ?_); refine goesL_ (some 84) rfl rfl Try.func12 (by kernel_rfl) rfl #[.slice A1 l1.length c1] rfl (by (try simp only [List.map_toArray, List.map_cons, List.map_nil]); first | done | rfl | (simp only [List.length_drop, List.length_take]; rfl)) ?_; (with_reducible refine (laws_toChordS.calls kj29 _ _ l1 t127 _ ?side1 ?side2 A51.out).mono ?_); (case side1 => repeat (first | exact (Kd.C_below HR1.out (by repeat (first | (with_reducible first | exact HB.out | apply below_alloc | apply pw_below_drewN | apply below_drew1) | exact HB.out))) | (with_reducible refine Kd.C_alloc ?_ _) | (with_reducible refine Kd.C_drewN ?_ _) | (with_reducible refine Kd.C_drew ?_))); (case side2 => exact HC1.out); rintro e w56 ⟨v128, rfl, ho0, hb⟩; refine ⟨_, rfl, ?_⟩; have n0_ := Aside0.mk (Kd.R_elder' (by (with_reducible repeat (first | apply Kd.R_alloc | apply Kd.R_drewN | apply Kd.R_drew)); exact HO_8.out) (Kd.R_base ho0) hb); have n1_ := Aside0.mk (Kd.R_elder' (by (with_reducible repeat (first | apply Kd.R_alloc | apply Kd.R_drewN | apply Kd.R_drew)); exact HO_11.out) (Kd.R_base ho0) hb); have n2_ := Aside0.mk (Kd.R_lower (Kd.R_new' (Kd.R_new' ho0 (Kd.R_lt (by (with_reducible repeat (first | apply Kd.R_alloc | apply Kd.R_drewN | apply Kd.R_drew)); exact HO_8.out))) (Kd.R_lt (by (with_reducible repeat (first | apply Kd.R_alloc | apply Kd.R_drewN | apply Kd.R_drew)); exact HO_11.out))) (below_size (by repeat (first | (with_reducible first | exact HB.out | apply below_alloc | apply pw_below_drewN | apply below_drew1) | exact HB.out)))); have n3_ := Aside0.mk (below_step (by repeat (first | (with_reducible first | exact HB.out | apply below_alloc | apply pw_below_drewN | apply below_drew1) | exact HB.out)) hb); clear HO_8; clear HO_11; clear HB; have HO_8 := n0_; have HO_11 := n1_; have HO129 := n2_; have HB := n3_; clear n0_ n1_ n2_ n3_; (try clear hb); (try clear hb2); (try clear hk); (try clear hi); (try clear ho0); obtain ⟨Ao57, co57, eo57⟩ := Kd.R_slice HO129.out; subst eo57) | ((with_reducible refine gate_callee (f := 27) rfl ?_); refine goesL_ (some 86) rfl rfl Try.func27 (by kernel_rfl) rfl #[.int .i64 a0, .slice Ao57 t127.length co57, .int .i64 a2] rfl (by (try simp only [List.map_toArray, List.map_cons, List.map_nil]); first | done | rfl | (simp only [List.length_drop, List.length_take]; rfl)) ?_; (with_reducible refine (impl_FlipDiagonal.calls a0 _ _ t127 a2 t130 t131 _ ?side1 ?side2 A52.out).mono ?_); (case side1 => repeat (first | exact (Kd.R_reads' HO129.out).2.2 | (with_reducible refine Kd.C_alloc ?_ _) | (with_reducible refine Kd.C_drewN ?_ _) | (with_reducible refine Kd.C_drew ?_))); (case side2 => exact (Kd.R_reads' HO129.out).2.1); rintro e w58 ⟨v132, rfl, ho0, hb⟩; refine ⟨_, rfl, ?_⟩; have n0_ := Aside0.mk (Kd.R_elder' (by (with_reducible repeat (first | apply Kd.R_alloc | apply Kd.R_drewN | apply Kd.R_drew)); exact HO_8.out) (Kd.R_base ho0) hb); have n1_ := Aside0.mk (Kd.R_elder' (by (with_reducible repeat (first | apply Kd.R_alloc | apply Kd.R_drewN | apply Kd.R_drew)); exact HO_11.out) (Kd.R_base ho0) hb); have n2_ := Aside0.mk (Kd.R_elder' (by (with_reducible repeat (first | apply Kd.R_alloc | apply Kd.R_drewN | apply Kd.R_drew)); exact HO129.out) (Kd.R_base ho0) hb); have n3_ := Aside0.mk (Kd.R_lower (Kd.R_new' (Kd.R_new' (Kd.R_new' ho0 (Kd.R_lt (by (with_reducible repeat (first | apply Kd.R_alloc | apply Kd.R_drewN | apply Kd.R_drew)); exact HO_8.out))) (Kd.R_lt (by (with_reducible repeat (first | apply Kd.R_alloc | apply Kd.R_drewN | apply Kd.R_drew)); exact HO_11.out))) (Kd.R_lt (by (with_reducible repeat (first | apply Kd.R_alloc | apply Kd.R_drewN | apply Kd.R_drew)); exact HO129.out))) (below_size (by repeat (first | (with_reducible first | exact HB.out | apply below_alloc | apply pw_below_drewN | apply below_drew1) | exact HB.out)))); have n4_ := Aside0.mk (below_step (by repeat (first | (with_reducible first | exact HB.out | apply below_alloc | apply pw_below_drewN | apply below_drew1) | exact HB.out)) hb); clear HO_8; clear HO_11; clear HO129; clear HB; have HO_8 := n0_; have HO_11 := n1_; have HO129 := n2_; have HO133 := n3_; have HB := n4_; clear n0_ n1_ n2_ n3_ n4_; (try clear hb); (try clear hb2); (try clear hk); (try clear hi); (try clear ho0)))
                      (try simp only [Act.put, List.setIfInBounds_toArray, List.set_cons_zero, List.set_cons_succ])
                      go_cut [97] (fun v97 wc => ∃ (kq : Nat) (x97_52 : Bool), v97 = .bool x97_52 ∧ Aside0 (laws_FnExactFlipDiagonal.j2 kq t125 t124 x97_52 = some r) ∧ Aside0 (kq ≤ kj29) ∧ Aside0 (Kd.R k64 64 wc w.heap.size (fun _ => True) (.slice Ao54 t112.length co54) t125) ∧ Aside0 (Below w.heap.size w wc))
                      case first =>
                        have H := HC53.out
                        clear HC53
                        replace H := Option.bind_eq_some_iff.mp H
                        obtain ⟨t134, A590, H⟩ := H
                        replace H : (if t134 = true then (laws_FnExactFlipDiagonal.j2 kj29 t125 t124 (t131 != t106)) else (laws_FnExactFlipDiagonal.j2 kj29 t125 t124 true)) = some r := H
                        have A59 := Aside0.mk A590
                        clear A590
                        by_cases c60 : t134 = true
                        · subst c60
                          have H1 : (laws_FnExactFlipDiagonal.j2 kj29 t125 t124 (t131 != t106)) = some r := by rw [if_pos rfl] at H; exact H
                          clear H
                          have H := H1
                          clear H1
                          have H' := Aside0.mk H
                          clear H
                          obtain ⟨Ao61, co61, eo61⟩ := Kd.R_slice HO133.out
                          subst eo61
                          obtain ⟨Ao62, co62, eo62⟩ := Kd.R_slice HO_8.out
                          subst eo62
                          go_wp2_with (first | ((with_reducible refine gate_callee (f := 15) rfl ?_); refine goesL_ (some 91) rfl rfl Try.func15 (by kernel_rfl) rfl #[.slice Ao61 t130.length co61, .slice Ao62 t105.length co62] rfl (by (try simp only [List.map_toArray, List.map_cons, List.map_nil]); first | done | rfl | (simp only [List.length_drop, List.length_take]; rfl)) ?_; (with_reducible refine (laws_eqChordS.calls kj29 _ _ t130 _ _ t105 true _ ?side1 ?side2 ?side3 ?side4 A59.out).mono ?_); (case side1 => repeat (first | exact (Kd.R_reads' HO133.out).2.2 | (with_reducible refine Kd.C_alloc ?_ _) | (with_reducible refine Kd.C_drewN ?_ _) | (with_reducible refine Kd.C_drew ?_))); (case side2 => exact (Kd.R_reads' HO133.out).2.1); (case side3 => repeat (first | exact (Kd.R_reads' HO_8.out).2.2 | (with_reducible refine Kd.C_alloc ?_ _) | (with_reducible refine Kd.C_drewN ?_ _) | (with_reducible refine Kd.C_drew ?_))); (case side4 => exact (Kd.R_reads' HO_8.out).2.1); rintro e w63 ⟨rfl, hb⟩; refine ⟨_, rfl, ?_⟩; have n0_ := Aside0.mk (Kd.R_below (by (with_reducible repeat (first | apply Kd.R_alloc | apply Kd.R_drewN | apply Kd.R_drew)); exact HO_8.out) hb); have n1_ := Aside0.mk (Kd.R_below (by (with_reducible repeat (first | apply Kd.R_alloc | apply Kd.R_drewN | apply Kd.R_drew)); exact HO_11.out) hb); have n2_ := Aside0.mk (Kd.R_below (by (with_reducible repeat (first | apply Kd.R_alloc | apply Kd.R_drewN | apply Kd.R_drew)); exact HO129.out) hb); have n3_ := Aside0.mk (Kd.R_below (by (with_reducible repeat (first | apply Kd.R_alloc | apply Kd.R_drewN | apply Kd.R_drew)); exact HO133.out) hb); have n4_ := Aside0.mk (below_step (by repeat (first | (with_reducible first | exact HB.out | apply below_alloc | apply pw_below_drewN | apply below_drew1) | exact HB.out)) hb); clear HO_8; clear HO_11; clear HO129; clear HO133; clear HB; have HO_8 := n0_; have HO_11 := n1_; have HO129 := n2_; have HO133 := n3_; have HB := n4_; clear n0_ n1_ n2_ n3_ n4_; (try clear hb); (try clear hb2); (try clear hk); (try clear hi)))
                          go_meet
                          case rel => exact ⟨_, ((t131 != t106)), (by first | rfl | (simp; done) | (simp [*]; done)), H', ⟨by have := HJ9.out; have := HJ29.out; first | omega | exact Nat.le_refl _⟩, ⟨by (with_reducible repeat (first | apply Kd.R_alloc | apply Kd.R_drewN | apply Kd.R_drew)); exact Kd.R_mono HO_11.out (fun _ hk => trivial)⟩, ⟨by repeat (first | (with_reducible first | exact HB.out | apply below_alloc | apply pw_below_drewN | apply below_drew1) | exact HB.out)⟩⟩
                        · replace c60 := Bool.eq_false_iff.mpr c60
                          subst c60
                          have H1 : (laws_FnExactFlipDiagonal.j2 kj29 t125 t124 true) = some r := by rw [if_neg (show ¬ (false = true) by decide)] at H; exact H
                          clear H
                          have H := H1
                          clear H1
                          have H' := Aside0.mk H
                          clear H
                          obtain ⟨Ao64, co64, eo64⟩ := Kd.R_slice HO133.out
                          subst eo64
                          obtain ⟨Ao65, co65, eo65⟩ := Kd.R_slice HO_8.out
                          subst eo65
                          go_wp2_with (first | ((with_reducible refine gate_callee (f := 15) rfl ?_); refine goesL_ (some 91) rfl rfl Try.func15 (by kernel_rfl) rfl #[.slice Ao64 t130.length co64, .slice Ao65 t105.length co65] rfl (by (try simp only [List.map_toArray, List.map_cons, List.map_nil]); first | done | rfl | (simp only [List.length_drop, List.length_take]; rfl)) ?_; (with_reducible refine (laws_eqChordS.calls kj29 _ _ t130 _ _ t105 false _ ?side1 ?side2 ?side3 ?side4 A59.out).mono ?_); (case side1 => repeat (first | exact (Kd.R_reads' HO133.out).2.2 | (with_reducible refine Kd.C_alloc ?_ _) | (with_reducible refine Kd.C_drewN ?_ _) | (with_reducible refine Kd.C_drew ?_))); (case side2 => exact (Kd.R_reads' HO133.out).2.1); (case side3 => repeat (first | exact (Kd.R_reads' HO_8.out).2.2 | (with_reducible refine Kd.C_alloc ?_ _) | (with_reducible refine Kd.C_drewN ?_ _) | (with_reducible refine Kd.C_drew ?_))); (case side4 => exact (Kd.R_reads' HO_8.out).2.1); rintro e w66 ⟨rfl, hb⟩; refine ⟨_, rfl, ?_⟩; have n0_ := Aside0.mk (Kd.R_below (by (with_reducible repeat (first | apply Kd.R_alloc | apply Kd.R_drewN | apply Kd.R_drew)); exact HO_8.out) hb); have n1_ := Aside0.mk (Kd.R_below (by (with_reducible repeat (first | apply Kd.R_alloc | apply Kd.R_drewN | apply Kd.R_drew)); exact HO_11.out) hb); have n2_ := Aside0.mk (Kd.R_below (by (with_reducible repeat (first | apply Kd.R_alloc | apply Kd.R_drewN | apply Kd.R_drew)); exact HO129.out) hb); have n3_ := Aside0.mk (Kd.R_below (by (with_reducible repeat (first | apply Kd.R_alloc | apply Kd.R_drewN | apply Kd.R_drew)); exact HO133.out) hb); have n4_ := Aside0.mk (below_step (by repeat (first | (with_reducible first | exact HB.out | apply below_alloc | apply pw_below_drewN | apply below_drew1) | exact HB.out)) hb); clear HO_8; clear HO_11; clear HO129; clear HO133; clear HB; have HO_8 := n0_; have HO_11 := n1_; have HO129 := n2_; have HO133 := n3_; have HB := n4_; clear n0_ n1_ n2_ n3_ n4_; (try clear hb); (try clear hb2); (try clear hk); (try clear hi)))
                          go_meet
                          case rel => exact ⟨_, (true), (by first | rfl | (simp; done) | (simp [*]; done)), H', ⟨by have := HJ9.out; have := HJ29.out; first | omega | exact Nat.le_refl _⟩, ⟨by (with_reducible repeat (first | apply Kd.R_alloc | apply Kd.R_drewN | apply Kd.R_drew)); exact Kd.R_mono HO_11.out (fun _ hk => trivial)⟩, ⟨by repeat (first | (with_reducible first | exact HB.out | apply below_alloc | apply pw_below_drewN | apply below_drew1) | exact HB.out)⟩⟩
                      case rest =>
                        clear HC53
                        try clear c1
                        try clear c2
                        try clear p2
                        try clear c3
                        try clear c4
                        try clear c5
                        try clear c5b0
                        try clear c6
                        try clear c10
                        try clear c12
                        try clear c15
                        try clear c16
                        try clear c18
                        try clear c25
                        try clear c26
                        try clear c27
                        try clear c28
                        try clear c35
                        try clear c35b0
                        try clear c37
                        try clear c44
                        try clear c47
                        try clear c47b0
                        try clear c50
                        try clear c50b0
                        try clear c50b1
                        try clear c60
                        try clear p2
                        obtain ⟨kq, x97_52, rfl, HA, HJ52, HO_11, HB⟩ := hcut
                        have hl11_52 := (Kd.R_reads' HO_11.out).1
                        rw [hl11_52] at HO_11
                        (try simp only [hl11_52])
                        cases kq with
                        | zero => exact absurd HA.out (by simp [laws_FnExactFlipDiagonal.j2])
                        | succ kj52 =>
                          have H := HA.out
                          clear HA
                          simp only [laws_FnExactFlipDiagonal.j2] at H
                          by_cases c67 : x97_52 = true
                          · subst c67
                            have H1 : (some false) = some r := by rw [if_pos rfl] at H; exact H
                            clear H
                            have H := H1
                            clear H1
                            obtain rfl := Option.some.inj H
                            go_wp2
                            go_ret
                            exact ⟨by first | rfl | (simp [errW_none, errW_some] <;> rfl) | (simp [*, errW_none, errW_some] <;> rfl), by repeat (first | (with_reducible first | exact HB.out | apply below_alloc | apply pw_below_drewN | apply below_drew1) | exact HB.out)⟩
                          · replace c67 := Bool.eq_false_iff.mpr c67
                            subst c67
                            have H1 : ((laws_heldChordS.f kj52 t125 1).bind fun t135 => (if t135 < 0 then (some false) else (if t135 = t124 then (some true) else (some false)))) = some r := by rw [if_neg (show ¬ (false = true) by decide)] at H; exact H
                            clear H
                            have H := H1
                            clear H1
                            replace H := Option.bind_eq_some_iff.mp H
                            obtain ⟨t135, A680, H⟩ := H
                            replace H : (if t135 < 0 then (some false) else (if t135 = t124 then (some true) else (some false))) = some r := H
                            have A68 := Aside0.mk A680
                            clear A680
                            by_cases c69 : t135 < 0
                            · rw [if_pos c69] at H
                              have c69b0 : decide (t135 < 0) = true := decide_eq_true c69
                              clear c69
                              obtain rfl := Option.some.inj H
                              go_wp2_with (first | ((with_reducible refine gate_callee (f := 28) rfl ?_); refine goesL_ (some 100) rfl rfl Try.func28 (by kernel_rfl) rfl #[.slice Ao54 t125.length co54, .int .i64 1] rfl (by (try simp only [List.map_toArray, List.map_cons, List.map_nil]); first | done | rfl | (simp only [List.length_drop, List.length_take]; rfl)) ?_; (with_reducible refine (laws_heldChordS.calls kj52 _ _ t125 1 t135 _ ?side1 ?side2 A68.out).mono ?_); (case side1 => repeat (first | exact (Kd.R_reads' HO_11.out).2.2 | (with_reducible refine Kd.C_alloc ?_ _) | (with_reducible refine Kd.C_drewN ?_ _) | (with_reducible refine Kd.C_drew ?_))); (case side2 => exact (Kd.R_reads' HO_11.out).2.1); rintro e w' ⟨rfl, ⟨nd, rfl⟩⟩; refine ⟨_, rfl, ?_⟩))
                              go_ret
                              exact ⟨by first | rfl | (simp [errW_none, errW_some] <;> rfl) | (simp [*, errW_none, errW_some] <;> rfl), by repeat (first | (with_reducible first | exact HB.out | apply below_alloc | apply pw_below_drewN | apply below_drew1) | exact HB.out)⟩
                            · rw [if_neg c69] at H
                              have c69b0 : decide (t135 < 0) = false := decide_eq_false c69
                              clear c69
                              by_cases c70 : t135 = t124
                              · rw [if_pos c70] at H
                                have c70b0 : (t135 == t124) = true := beq_iff_eq.mpr c70
                                have c70b1 : (t135 != t124) = false := bne_eq_false_iff_eq.mpr c70
                                clear c70
                                obtain rfl := Option.some.inj H
                                go_wp2_with (first | ((with_reducible refine gate_callee (f := 28) rfl ?_); refine goesL_ (some 100) rfl rfl Try.func28 (by kernel_rfl) rfl #[.slice Ao54 t125.length co54, .int .i64 1] rfl (by (try simp only [List.map_toArray, List.map_cons, List.map_nil]); first | done | rfl | (simp only [List.length_drop, List.length_take]; rfl)) ?_; (with_reducible refine (laws_heldChordS.calls kj52 _ _ t125 1 t135 _ ?side1 ?side2 A68.out).mono ?_); (case side1 => repeat (first | exact (Kd.R_reads' HO_11.out).2.2 | (with_reducible refine Kd.C_alloc ?_ _) | (with_reducible refine Kd.C_drewN ?_ _) | (with_reducible refine Kd.C_drew ?_))); (case side2 => exact (Kd.R_reads' HO_11.out).2.1); rintro e w' ⟨rfl, ⟨nd, rfl⟩⟩; refine ⟨_, rfl, ?_⟩))
                                go_ret
                                exact ⟨by first | rfl | (simp [errW_none, errW_some] <;> rfl) | (simp [*, errW_none, errW_some] <;> rfl), by repeat (first | (with_reducible first | exact HB.out | apply below_alloc | apply pw_below_drewN | apply below_drew1) | exact HB.out)⟩
                              · rw [if_neg c70] at H
                                have c70b0 : (t135 == t124) = false := beq_eq_false_iff_ne.mpr c70
                                have c70b1 : (t135 != t124) = true := bne_iff_ne.mpr c70
                                obtain rfl := Option.some.inj H
                                go_wp2_with (first | ((with_reducible refine gate_callee (f := 28) rfl ?_); refine goesL_ (some 100) rfl rfl Try.func28 (by kernel_rfl) rfl #[.slice Ao54 t125.length co54, .int .i64 1] rfl (by (try simp only [List.map_toArray, List.map_cons, List.map_nil]); first | done | rfl | (simp only [List.length_drop, List.length_take]; rfl)) ?_; (with_reducible refine (laws_heldChordS.calls kj52 _ _ t125 1 t135 _ ?side1 ?side2 A68.out).mono ?_); (case side1 => repeat (first | exact (Kd.R_reads' HO_11.out).2.2 | (with_reducible refine Kd.C_alloc ?_ _) | (with_reducible refine Kd.C_drewN ?_ _) | (with_reducible refine Kd.C_drew ?_))); (case side2 => exact (Kd.R_reads' HO_11.out).2.1); rintro e w' ⟨rfl, ⟨nd, rfl⟩⟩; refine ⟨_, rfl, ?_⟩))
                                go_ret
                                exact ⟨by first | rfl | (simp [errW_none, errW_some] <;> rfl) | (simp [*, errW_none, errW_some] <;> rfl), by repeat (first | (with_reducible first | exact HB.out | apply below_alloc | apply pw_below_drewN | apply below_drew1) | exact HB.out)⟩
                    · rw [if_neg c50] at H
                      have c50b0 : (t126 == t124) = false := beq_eq_false_iff_ne.mpr c50
                      have c50b1 : (t126 != t124) = true := bne_iff_ne.mpr c50
                      obtain rfl := Option.some.inj H
                      obtain ⟨Ao71, co71, eo71⟩ := Kd.R_slice HO_11.out
                      subst eo71
                      go_wp2_with (first | ((with_reducible refine gate_callee (f := 16) rfl ?_); refine goesL_ (some 72) rfl rfl Try.func16 (by kernel_rfl) rfl #[.slice Ao71 t112.length co71, .int .i64 1] rfl (by (try simp only [List.map_toArray, List.map_cons, List.map_nil]); first | done | rfl | (simp only [List.length_drop, List.length_take]; rfl)) ?_; (with_reducible refine (laws_markChordS.calls kj29 (fun k_ => some k_ = (.slice Ao71 t112.length co71 : Value).ownBlock) (.slice Ao71 t112.length co71) t112 1 t124 t125 w _ ?side1 ?side2 A45.out).mono ?_); (case side1 => repeat (first | (with_reducible first | exact HB.out | apply below_alloc | apply pw_below_drewN | apply below_drew1) | exact HB.out)); (case side2 => exact Kd.R_tight rfl HO_11.out); rintro e w72 ⟨rfl, hy0, hb, hkp⟩; refine ⟨_, rfl, ?_⟩; have n0_ := Aside0.mk (Kd.R_mono (ok' := fun k_ => some k_ ≠ (.slice Ao71 t112.length co71 : Value).ownBlock) (Kd.R_keptB (HO_8.out) hkp (fun k_ hk_ hs_ => (hk_) hs_)) (fun k_ hk_ => hk_.1)); have n1_ := Aside0.mk (Kd.R_reok rfl hy0 (fun k_ e_ => HO_11.out.1 k_ e_)); have n2_ := Aside0.mk (hb); clear HO_8; clear HO_11; clear HB; have HO_8 := n0_; have HO_11 := n1_; have HB := n2_; clear n0_ n1_ n2_; (try clear hb); (try clear hkp); (try clear hy0)) | ((with_reducible refine gate_callee (f := 28) rfl ?_); refine goesL_ (some 75) rfl rfl Try.func28 (by kernel_rfl) rfl #[.slice Ao71 t125.length co71, .int .i64 1] rfl (by (try simp only [List.map_toArray, List.map_cons, List.map_nil]); first | done | (rw [show t125.length = t112.length from (Kd.R_reads' HO_11.out).1.symm] <;> rfl) | rfl | (simp only [List.length_drop, List.length_take]; rfl)) ?_; (with_reducible refine (laws_heldChordS.calls kj29 _ _ t125 1 t126 _ ?side1 ?side2 A46.out).mono ?_); (case side1 => repeat (first | exact (Kd.R_reads' HO_11.out).2.2 | (with_reducible refine Kd.C_alloc ?_ _) | (with_reducible refine Kd.C_drewN ?_ _) | (with_reducible refine Kd.C_drew ?_))); (case side2 => rw [show t125.length = t112.length from (Kd.R_reads' HO_11.out).1.symm]; exact (Kd.R_reads' HO_11.out).2.1); rintro e w' ⟨rfl, ⟨nd, rfl⟩⟩; refine ⟨_, rfl, ?_⟩))
                      go_ret
                      exact ⟨by first | rfl | (simp [errW_none, errW_some] <;> rfl) | (simp [*, errW_none, errW_some] <;> rfl), by repeat (first | (with_reducible first | exact HB.out | apply below_alloc | apply pw_below_drewN | apply below_drew1) | exact HB.out)⟩
          · replace c28 := Bool.eq_false_iff.mpr c28
            subst c28
            have H1 : (some false) = some r := by rw [if_neg (show ¬ (false = true) by decide)] at H; exact H
            clear H
            have H := H1
            clear H1
            obtain rfl := Option.some.inj H
            go_wp2_with (first | ((with_reducible refine gate_callee (f := 12) rfl ?_); refine goesL_ (some 51) rfl rfl Try.func12 (by kernel_rfl) rfl #[.slice A1 l1.length c1] rfl (by (try simp only [List.map_toArray, List.map_cons, List.map_nil]); first | done | rfl | (simp only [List.length_drop, List.length_take]; rfl)) ?_; (with_reducible refine (laws_toChordS.calls kj9 _ _ l1 t117 _ ?side1 ?side2 A26.out).mono ?_); (case side1 => repeat (first | exact (Kd.C_below HR1.out HB.out) | (with_reducible refine Kd.C_alloc ?_ _) | (with_reducible refine Kd.C_drewN ?_ _) | (with_reducible refine Kd.C_drew ?_))); (case side2 => exact HC1.out); rintro e w73 ⟨v118, rfl, ho0, hb⟩; refine ⟨_, rfl, ?_⟩; have n0_ := Aside0.mk (Kd.R_elder' (by (with_reducible repeat (first | apply Kd.R_alloc | apply Kd.R_drewN | apply Kd.R_drew)); exact HO_8.out) (Kd.R_base ho0) hb); have n1_ := Aside0.mk (Kd.R_elder' (by (with_reducible repeat (first | apply Kd.R_alloc | apply Kd.R_drewN | apply Kd.R_drew)); exact HO_10.out) (Kd.R_base ho0) hb); have n2_ := Aside0.mk (Kd.R_elder' (by (with_reducible repeat (first | apply Kd.R_alloc | apply Kd.R_drewN | apply Kd.R_drew)); exact HO_11.out) (Kd.R_base ho0) hb); have n3_ := Aside0.mk (Kd.R_lower (Kd.R_new' (Kd.R_new' (Kd.R_new' ho0 (Kd.R_lt (by (with_reducible repeat (first | apply Kd.R_alloc | apply Kd.R_drewN | apply Kd.R_drew)); exact HO_8.out))) (Kd.R_lt (by (with_reducible repeat (first | apply Kd.R_alloc | apply Kd.R_drewN | apply Kd.R_drew)); exact HO_10.out))) (Kd.R_lt (by (with_reducible repeat (first | apply Kd.R_alloc | apply Kd.R_drewN | apply Kd.R_drew)); exact HO_11.out))) (below_size (by repeat (first | (with_reducible first | exact HB.out | apply below_alloc | apply pw_below_drewN | apply below_drew1) | exact HB.out)))); have n4_ := Aside0.mk (below_step (by repeat (first | (with_reducible first | exact HB.out | apply below_alloc | apply pw_below_drewN | apply below_drew1) | exact HB.out)) hb); clear HO_8; clear HO_10; clear HO_11; clear HB; have HO_8 := n0_; have HO_10 := n1_; have HO_11 := n2_; have HO119 := n3_; have HB := n4_; clear n0_ n1_ n2_ n3_ n4_; (try clear hb); (try clear hb2); (try clear hk); (try clear hi); (try clear ho0); obtain ⟨Ao74, co74, eo74⟩ := Kd.R_slice HO119.out; subst eo74) | ((with_reducible refine gate_callee (f := 15) rfl ?_); refine goesL_ (some 52) rfl rfl Try.func15 (by kernel_rfl) rfl #[.slice Ao15 t109.length co15, .slice Ao74 t117.length co74] rfl (by (try simp only [List.map_toArray, List.map_cons, List.map_nil]); first | done | rfl | (simp only [List.length_drop, List.length_take]; rfl)) ?_; (with_reducible refine (laws_eqChordS.calls kj9 _ _ t109 _ _ t117 false _ ?side1 ?side2 ?side3 ?side4 A27.out).mono ?_); (case side1 => repeat (first | exact (Kd.R_reads' HO_10.out).2.2 | (with_reducible refine Kd.C_alloc ?_ _) | (with_reducible refine Kd.C_drewN ?_ _) | (with_reducible refine Kd.C_drew ?_))); (case side2 => exact (Kd.R_reads' HO_10.out).2.1); (case side3 => repeat (first | exact (Kd.R_reads' HO119.out).2.2 | (with_reducible refine Kd.C_alloc ?_ _) | (with_reducible refine Kd.C_drewN ?_ _) | (with_reducible refine Kd.C_drew ?_))); (case side4 => exact (Kd.R_reads' HO119.out).2.1); rintro e w75 ⟨rfl, hb⟩; refine ⟨_, rfl, ?_⟩; have n0_ := Aside0.mk (Kd.R_below (by (with_reducible repeat (first | apply Kd.R_alloc | apply Kd.R_drewN | apply Kd.R_drew)); exact HO_8.out) hb); have n1_ := Aside0.mk (Kd.R_below (by (with_reducible repeat (first | apply Kd.R_alloc | apply Kd.R_drewN | apply Kd.R_drew)); exact HO_10.out) hb); have n2_ := Aside0.mk (Kd.R_below (by (with_reducible repeat (first | apply Kd.R_alloc | apply Kd.R_drewN | apply Kd.R_drew)); exact HO_11.out) hb); have n3_ := Aside0.mk (Kd.R_below (by (with_reducible repeat (first | apply Kd.R_alloc | apply Kd.R_drewN | apply Kd.R_drew)); exact HO119.out) hb); have n4_ := Aside0.mk (below_step (by repeat (first | (with_reducible first | exact HB.out | apply below_alloc | apply pw_below_drewN | apply below_drew1) | exact HB.out)) hb); clear HO_8; clear HO_10; clear HO_11; clear HO119; clear HB; have HO_8 := n0_; have HO_10 := n1_; have HO_11 := n2_; have HO119 := n3_; have HB := n4_; clear n0_ n1_ n2_ n3_ n4_; (try clear hb); (try clear hb2); (try clear hk); (try clear hi)))
            go_ret
            exact ⟨by first | rfl | (simp [errW_none, errW_some] <;> rfl) | (simp [*, errW_none, errW_some] <;> rfl), by repeat (first | (with_reducible first | exact HB.out | apply below_alloc | apply pw_below_drewN | apply below_drew1) | exact HB.out)⟩
end Go.Proofs.Yteeghncofacmhaa.Q
end
section
/- FlipDiagonal: the law is true. -/
namespace Go.Proofs.Yteeghncofacmhaa.Q
open Go.RowKit Go.Proofs.YteeghncofacmhaaW.PrintWords Go.Proofs.YteeghncofacmhaaW.PrintLast Go.Proofs.YteeghncofacmhaaW.PrintMore
set_option linter.unusedVariables false
set_option linter.unusedSimpArgs false
/-- Chords numbered on from a. -/
def nums2 (a : Int) : Nat → List Ch
  | 0 => []
  | n + 1 => ⟨a, a + 1⟩ :: nums2 (a + 2) n
theorem nums2_len (a : Int) : ∀ n, (nums2 a n).length = n
  | 0 => rfl
  | n + 1 => by show (nums2 (a + 2) n).length + 1 = _; rw [nums2_len]
theorem nums2_snoc (a : Int) : ∀ n, nums2 a (n + 1) = nums2 a n ++ [⟨a + 2 * (n : Int), a + 2 * (n : Int) + 1⟩]
  | 0 => by show [(⟨a, a + 1⟩ : Ch)] = [⟨a + 2 * ((0 : Nat) : Int), _⟩]; simp
  | n + 1 => by
    show (⟨a, a + 1⟩ : Ch) :: nums2 (a + 2) (n + 1) = (⟨a, a + 1⟩ : Ch) :: (nums2 (a + 2) n ++ [_])
    rw [nums2_snoc (a + 2) n]
    have e : a + 2 + 2 * (n : Int) = a + 2 * ((n + 1 : Nat) : Int) := by omega
    rw [e]
theorem nums2_at (a : Int) : ∀ (n i : Nat), i < n → rd_T64 (nums2 a n) (i : Int) = ⟨a + 2 * (i : Int), a + 2 * (i : Int) + 1⟩
  | n + 1, 0, _ => by show (⟨a, a + 1⟩ : Ch) = _; simp
  | n + 1, i + 1, h => by
    have := nums2_at (a + 2) n i (by omega)
    rw [rdT_at (by rw [nums2_len]; omega)] at this ⊢
    show (nums2 (a + 2) n)[i]'_ = _
    rw [this]
    have e : a + 2 + 2 * (i : Int) = a + 2 * ((i + 1 : Nat) : Int) := by omega
    rw [e]
theorem markCh_ev (l : List Ch) (hl : l.length ≤ 1048576) : Ev (fun k => laws_markChordS.f k l 1) (1 + 2 * (l.length : Int), nums2 1 l.length) := by
  have key : ∀ (d i : Nat), i + d = l.length → Ev (fun k => laws_markChordS.l0 k (nums2 1 i ++ l.drop i) (1 + 2 * (i : Int)) (i : Int)) (1 + 2 * (l.length : Int), nums2 1 l.length) := by
    intro d
    induction d with
    | zero =>
      intro i hd
      refine Ev.some_ fun k => ?_
      simp only [laws_markChordS.l0]
      obtain rfl : i = l.length := by omega
      rw [List.drop_eq_nil_of_le (Nat.le_refl _), List.append_nil, nums2_len, if_neg (by omega)]
    | succ d ih =>
      intro i hd
      have hi : i < l.length := by omega
      have hlen : (nums2 1 i ++ l.drop i).length = l.length := by rw [List.length_append, nums2_len, List.length_drop]; omega
      refine Ev.step (fun k => ?_) (ih (i + 1) (by omega))
      simp only [laws_markChordS.l0, Option.bind_some]
      rw [if_pos (by rw [hlen]; omega), if_pos (by omega), Int.toNat_natCast, w64s (x := 1 + 2 * (i : Int) + 1) (by omega) (by omega), w64s (x := 1 + 2 * (i : Int) + 1 + 1) (by omega) (by omega), w64 (n := l.length) (by omega) (by omega)]
      have e1 : 1 + 2 * (i : Int) + 1 + 1 = 1 + 2 * ((i + 1 : Nat) : Int) := by omega
      have hrd : ∀ x : Ch, rd_T64 ((nums2 1 i ++ l.drop i).set i x) (i : Int) = x := fun x => by
        rw [rdT_at (by rw [List.length_set, hlen]; exact hi)]; simp
      rw [e1, hrd, List.set_set, nums2_snoc, set_mid _ _ _ i hi (nums2_len 1 i) (by rw [nums2_len]; omega)]
  have := key l.length 0 (by omega)
  unfold laws_markChordS.f
  simpa [show nums2 1 0 = [] from rfl] using this
theorem heldCh_ev (n : Nat) (hl : n ≤ 1048576) : Ev (fun k => laws_heldChordS.f k (nums2 1 n) 1) (1 + 2 * (n : Int)) := by
  have key : ∀ (d i : Nat), i + d = n → Ev (fun k => laws_heldChordS.l0 k (nums2 1 n) (1 + 2 * (i : Int)) (i : Int)) (1 + 2 * (n : Int)) := by
    intro d
    induction d with
    | zero =>
      intro i hd
      refine Ev.some_ fun k => ?_
      simp only [laws_heldChordS.l0]
      rw [nums2_len, if_neg (by omega), show i = n by omega]
    | succ d ih =>
      intro i hd
      have hi : i < n := by omega
      refine Ev.step (fun k => ?_) (ih (i + 1) (by omega))
      simp only [laws_heldChordS.l0]
      rw [nums2_len, if_pos (by omega), if_pos (by omega), nums2_at 1 n i hi, w64s (x := 1 + 2 * (i : Int) + 1) (by omega) (by omega), if_pos rfl, if_pos rfl, w64s (x := 1 + 2 * (i : Int) + 1 + 1) (by omega) (by omega), w64 hi (by omega)]
      have e1 : 1 + 2 * (i : Int) + 1 + 1 = 1 + 2 * ((i + 1 : Nat) : Int) := by omega
      rw [e1]
  have := key n 0 (by omega)
  unfold laws_heldChordS.f
  simpa using this
theorem flipRes_len (n : Int) (l : List Ch) (k : Int) : (flipRes n l k).1.length ≤ l.length := by
  unfold flipRes
  split
  · show (flipped n l k).length ≤ _
    unfold flipped
    rw [List.length_mergeSort, List.length_set]
    exact Nat.le_refl _
  · simp
theorem FnExactFlipDiagonal_ev (n : Int) (l : List S66) (a2 : Int) (hl : l.length ≤ 9223372036854775807) : Ev (fun k => laws_FnExactFlipDiagonal.f k n l a2) true := by
  unfold laws_FnExactFlipDiagonal.f
  rw [szChordS_eq l hl]
  simp only [Option.bind_some]
  by_cases hbig : 1048576 < l.length
  · exact Ev.congr (fun k => by rw [if_pos hbig, if_pos (by decide)]) (Ev.now true)
  · have hl2 : l.length ≤ 1048576 := by omega
    have hcl := toCh_length l
    have hto := toChordS_ev l hl2
    have hsz := flipRes_len n (toCh l) a2
    have hsp : Ev (fun _ => spec_FlipDiagonal.f n (toCh l) a2) (flipRes n (toCh l) a2) := Ev.const fun _ => by unfold spec_FlipDiagonal.f; rw [if_pos (by omega)]
    have him : Ev (fun _ => impl_FlipDiagonal.f n (toCh l) a2) (flipRes n (toCh l) a2) := Ev.const fun _ => by unfold impl_FlipDiagonal.f; rw [if_pos (by omega)]
    have hmk := markCh_ev (toCh l) (by omega)
    have hec := eqChordS_refl (toCh l) (by omega)
    generalize flipRes n (toCh l) a2 = sz at hsz hsp him
    have hei := eqChordS_refl sz.1 (by omega)
    have hmi := markCh_ev sz.1 (by omega)
    have hhe := heldCh_ev sz.1.length (by omega)
    refine Ev.congr (fun k => by rw [if_neg hbig, if_neg (by omega)]) ?_
    refine Ev.bind hto (Ev.bind hsp (Ev.bind hto (Ev.bind him (Ev.bind hei ?_))))
    refine Ev.congr (f := fun k => laws_FnExactFlipDiagonal.j0 k n l a2 sz.1 sz.2 (toCh l) sz.1 sz.2 false) (fun k => by rw [if_pos rfl]; simp) ?_
    refine Ev.step (fun k => by simp only [laws_FnExactFlipDiagonal.j0]; rw [if_neg (by simp)]) ?_
    refine Ev.bind hto (Ev.bind hec ?_)
    refine Ev.congr (fun k => by rw [if_pos rfl]) (Ev.bind hmk ?_)
    refine Ev.congr (fun k => by rw [if_neg (by omega)]) (Ev.bind hei ?_)
    refine Ev.congr (f := fun k => laws_FnExactFlipDiagonal.j1 k n l a2 sz.1 sz.2 sz.1 false) (fun k => by rw [if_pos rfl]; simp) ?_
    refine Ev.step (fun k => by simp only [laws_FnExactFlipDiagonal.j1]; rw [if_neg (by simp)]) ?_
    refine Ev.bind hmi (Ev.bind hhe ?_)
    refine Ev.congr (fun k => by rw [if_neg (by omega), if_pos rfl]) (Ev.bind hto (Ev.bind him (Ev.bind hei ?_)))
    refine Ev.congr (f := fun k => laws_FnExactFlipDiagonal.j2 k (nums2 1 sz.1.length) (1 + 2 * (sz.1.length : Int)) false) (fun k => by rw [if_pos rfl]; simp) ?_
    refine Ev.step (fun k => by simp only [laws_FnExactFlipDiagonal.j2]; rw [if_neg (by simp)]) ?_
    refine Ev.bind hhe ?_
    exact Ev.congr (fun k => by rw [if_neg (by omega), if_pos rfl]) (Ev.now true)
theorem FnExactFlipDiagonal_true (a0 : Int) (A : Option Addr) (c : Nat) (l : List S66) (a2 : Int) (w : World) (hr : Kd.C k66 w A l.length l) (hc : l.length ≤ c) (hw : ∀ c ∈ l, (Lit.int .i64 c.f0).wf = true ∧ (Lit.int .i64 c.f1).wf = true) :
    Calls Try.prog 6 #[.int .i64 a0, .slice A l.length c, .int .i64 a2] w fun e w' => e = .returned (.bool true) ∧ Below w.heap.size w w' := by
  obtain ⟨k, hk⟩ := FnExactFlipDiagonal_ev a0 l a2 hr.2.1
  exact laws_FnExactFlipDiagonal.calls k a0 A c l a2 true w hr hc (hk k (Nat.le_refl _))
end Go.Proofs.Yteeghncofacmhaa.Q
end
section
/- The row of FnExactFlipDiagonal, lifted from its walk; no condition. -/
namespace Go.Proofs.Yteeghncofacmhaa.fnExactFlipDiagonal
open Go.ChangeShapes Go.WideShapes Go.ChangeAt Go.RowKit
set_option linter.unusedVariables false
theorem own : ownKnob Try.prog.godebug = none := by kernel_rfl
theorem laidOut : laidOutB Try.prog = true := by kernel_rfl
set_option maxRecDepth 100000 in
theorem lifted (os : Os) (started : os.Started) (H : Type) (enc : TypeId × Value → H) :
    ReturnsInHanded {} Try.checked os 6 .any (Rows.fnExactFlipDiagonalSpec.pre6 enc Try.prog Try.f6 Rows.fnExactFlipDiagonalRow.domain false) (Rows.fnExactFlipDiagonalSpec.post enc Try.prog Try.f6 false true false false) := by
  refine returnsInHanded_of_change_sized (C := Try.checked) own started (by kernel_rfl) Try.func6
    (ChangeSpec.witness6 (enc := enc) (C := Try.checked) false ⟨#[], #[.int .i64 0, .slice none 0 0, .int .i64 0], []⟩ 8 (by kernel_rfl) (by kernel_rfl) (by kernel_rfl) (by kernel_rfl)) ?_
  intro W base args ds gs before hval0 hW hcnd hsz0 _
  have hval : ∀ (j : Nat) t v, Try.f6.params[j]? = some t → args[j]? = some v → Value.okWide Try.prog W .any base t v := hval0
  have hW' := hW
  obtain ⟨p, q, hA0, hV, rfl, hfz, hnd⟩ := hW
  have hA : DataW.TrodAll enc Try.prog W 0 (fun _ => true) true Try.f6.params.toList args.toList ds p := hA0
  rw [Try.params6] at hA hval
  obtain ⟨v0, vs0, d0, ds0, p0, q0, hargs, rfl, rfl, h0, r0⟩ := trodAll_cons hA
  obtain ⟨v1, vs1, d1, ds1, p1, q1, rfl, rfl, rfl, h1, r1⟩ := trodAll_cons r0
  obtain ⟨v2, vs2, d2, ds2, p2, q2, rfl, rfl, rfl, h2, r2⟩ := trodAll_cons r1
  obtain ⟨rfl, rfl, rfl⟩ := trodAll_nil r2
  obtain rfl : args = #[v0, v1, v2] := by cases args; simp_all
  obtain ⟨rfl, rfl⟩ := trodVars_none hV
  obtain ⟨i0, rfl⟩ := okWide_int Try.underlying3 (hval 0 3 v0 rfl rfl)
  obtain ⟨a1, len1, cap1, rfl⟩ := okWide_slice Try.underlying22 (hval 1 22 v1 rfl rfl)
  have k0 := h0
  have lt0 : ∀ x ∈ p0, x.block < W.heap.size := by obtain ⟨m, hm⟩ := k0; exact DataW.trod_lt m _ _ _ hm
  have k1 := h1
  have lt1 : ∀ x ∈ p1, x.block < W.heap.size := by obtain ⟨m, hm⟩ := k1; exact DataW.trod_lt m _ _ _ hm
  obtain ⟨l, rfl, hcap, hC, hwf⟩ := Q.chords_of_trod h1
  obtain ⟨i2, rfl⟩ := okWide_int Try.underlying3 (hval 2 3 v2 rfl rfl)
  have k2 := h2
  have lt2 : ∀ x ∈ p2, x.block < W.heap.size := by obtain ⟨m, hm⟩ := k2; exact DataW.trod_lt m _ _ _ hm
  clear hA0 hval0 hsz0
  refine (Q.FnExactFlipDiagonal_true i0 a1 cap1 l i2 W hC hcap hwf).mono fun e W' ⟨he, bel⟩ => ?_
  subst he
  exact ⟨_, rfl, _, _, _, [], _, [], hW', trodAll_mk1 (shut_bool Try.underlying4 _), (trodAll_cons_mk (Below.trod laidOut (by kernel_rfl) (of_decide_eq_true (by kernel_rfl)) k0 bel lt0) (trodAll_cons_mk (Below.trod laidOut (by kernel_rfl) (of_decide_eq_true (by kernel_rfl)) k1 bel lt1) (trodAll_cons_mk (Below.trod laidOut (by kernel_rfl) (of_decide_eq_true (by kernel_rfl)) k2 bel lt2) trodAll_mk0))), rfl, bel.frame _, fun h => by cases h⟩
theorem over : Rows.fnExactFlipDiagonalRow.holds Try.pinned (OpenSpec.ofChange Rows.fnExactFlipDiagonalSpec) :=
  OpenClaim.holds_of_wide 6 Try.f6 rfl rfl rfl rfl rfl rfl rfl ⟨rfl, rfl, rfl, rfl, rfl⟩ rfl rfl rfl rfl rfl (by kernel_rfl) Try.func6 (by kernel_rfl)
    (of_decide_eq_true (by kernel_rfl)) (by unfold Func.isWrapper; first | (rw [if_pos (by decide +kernel)]; kernel_rfl) | (rw [if_neg (by decide +kernel)]; exact ⟨rfl, rfl⟩))
    (fun os started H enc _ => lifted os started H enc)
theorem proved : Rows.FnExactFlipDiagonalSaid := over
end Go.Proofs.Yteeghncofacmhaa.fnExactFlipDiagonal
namespace Go.Proofs.Yteeghncofacmhaa
/-- The row, under a short name, for the claim. -/
theorem fnExactFlipDiagonal_holds : Rows.FnExactFlipDiagonalSaid := fnExactFlipDiagonal.proved
end Go.Proofs.Yteeghncofacmhaa
end
#print axioms Go.Proofs.Yteeghncofacmhaa.fnExactFlipDiagonal_holds
