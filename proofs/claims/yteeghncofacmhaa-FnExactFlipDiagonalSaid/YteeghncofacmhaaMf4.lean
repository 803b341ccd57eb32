/- The proof of FnExactFlipDiagonal, part 5 of 7; no condition: the statement as it is given. Merged by pack.py out of this session's texts. -/
import Derived.Shelf.SlSortCmp.NoneTotal
import Derived.Shelf.SlicesE.Clone
import Derived.Laws.EntriesVeiled
import Derived.Test.YteeghncofacmhaaMf3
import Derived.Test.YteeghncofacmhaaMf2
section
/- impl.FlipDiagonal's closures. -/
namespace Go.Proofs.Yteeghncofacmhaa.Q
open Go.RowKit Go.Proofs.YteeghncofacmhaaW.PrintWords Go.Proofs.YteeghncofacmhaaW.PrintLast Go.Proofs.YteeghncofacmhaaW.PrintMore
attribute [local go_sem] max2_int min2_int max_two min_two max_three min_three max_four min_four
set_option linter.unusedVariables false
set_option linter.unusedSimpArgs false
theorem chord_eq (p q : Int) : impl_chord.f p q = some ((mkCh p q).f0, (mkCh p q).f1) := by
  unfold impl_chord.f mkCh mn mx
  by_cases h1 : p < q
  · rw [if_neg (by omega), if_pos h1, if_pos h1]
  · rw [if_neg h1, if_neg h1]
    by_cases h2 : q < p
    · rw [if_pos h2]
    · rw [if_neg h2, show p = q by omega]
set_option maxHeartbeats 2000000 in
set_option maxRecDepth 100000 in
theorem join_closure (W : World) (n : Int) (l : List Ch) (A : Option Addr) (c b3 b4 : Nat) (hn : 0 ≤ n ∧ n ≤ 1000000) (hC : Kd.C k64 W A l.length l) (hc : l.length ≤ c) (hl : l.length ≤ 1000000) (hb3 : W.cell? ⟨b3, 0, none⟩ = some (.int .i64 n)) (hb4 : W.cell? ⟨b4, 0, none⟩ = some (.slice A l.length c))
    (p q : Int) (hp : 0 ≤ p ∧ p ≤ 1000000) (hq : 0 ≤ q ∧ q ≤ 1000000) :
    Calls Try.prog 72 #[.int .i64 p, .int .i64 q, .pointer (some ⟨b3, 0, none⟩), .pointer (some ⟨b4, 0, none⟩)] W fun e w' => e = .returned (.bool (joined n l p q)) ∧ Below W.heap.size W w' := by
  have hch := impl_chord.calls p q _ _ W (chord_eq p q)
  have hdi := fun W' => impl_isDiagonal.calls n (mkCh p q).f0 (mkCh p q).f1 _ W' (isDiagonal_eq (c := mkCh p q) hn (by unfold mkCh; split <;> simp <;> omega))
  obtain ⟨k, hk⟩ := containsCh_ev l (mkCh p q) (by omega)
  have hco : ∀ W', Below W.heap.size W W' → Calls Try.prog 75 #[.slice A l.length c, .agg #[.int .i64 (mkCh p q).f0, .int .i64 (mkCh p q).f1]] W' fun e w' => e = .returned (.bool (l.contains (mkCh p q))) ∧ Below W'.heap.size W' w' :=
    fun W' hb => impl_Chord_75.calls k _ _ _ _ _ _ W' (Kd.C_below hC hb) hc (hk k (Nat.le_refl _))
  have hlt3 := World.block_lt_of_cell? W _ hb3
  have hlt4 := World.block_lt_of_cell? W _ hb4
  have hu2 := Try.underlying64
  unfold joined
  generalize l.contains (mkCh p q) = r2 at hco ⊢
  generalize diagC n (mkCh p q) = r1 at hdi ⊢
  generalize (mkCh p q).f0 = x0 at hch hdi hco
  generalize (mkCh p q).f1 = x1 at hch hdi hco
  replace hch := Aside0.mk hch
  replace hdi := Aside0.mk hdi
  replace hco := Aside0.mk hco
  have HB3 := Aside0.mk hb3
  have HB4 := Aside0.mk hb4
  have HL3 := Aside0.mk hlt3
  have HL4 := Aside0.mk hlt4
  clear hC hc hl hk hb3 hb4 hlt3 hlt4 hp hq hn
  by_cases hpq : p = q
  · have h1 : (p != q) = false := by simp [hpq]
    have e1 : decide (p ≠ q) = false := by simp [hpq]
    rw [e1]
    clear hpq e1
    go_enter Try.func72, Try.ntmps72
    go_wp2_with (go_at_call 73; refine hch.out.mono ?_; rintro e w1 ⟨rfl, hb1⟩; have HB1 := Aside0.mk hb1; clear hb1)
    go_ret
    exact ⟨rfl, below_alloc HB1.out _⟩
  · have h1 : (p != q) = true := by simp [hpq]
    have e1 : decide (p ≠ q) = true := by simp [hpq]
    rw [e1]
    clear hpq e1
    cases r1 with
    | false =>
      go_enter Try.func72, Try.ntmps72
      go_wp2_with fail
      (with_reducible refine hch.out.mono ?_)
      rintro e w1 ⟨rfl, hb1⟩
      have hB2 : Below W.heap.size W (w1.alloc (.cells #[.int .i64 x0, .int .i64 x1] 64)) := below_alloc hb1 _
      have c0 : (w1.alloc (.cells #[.int .i64 x0, .int .i64 x1] 64)).cell? ⟨w1.heap.size, 0, none⟩ = some (.int .i64 x0) := new_cell _ _ _ 0
      have c1 : (w1.alloc (.cells #[.int .i64 x0, .int .i64 x1] 64)).cell? ⟨w1.heap.size, 1, none⟩ = some (.int .i64 x1) := new_cell _ _ _ 1
      have d3 := (hB2.cell HL3.out).trans HB3.out
      have d4 := (hB2.cell HL4.out).trans HB4.out
      have HBB := Aside0.mk hB2
      clear hb1 hB2
      generalize hwv : (w1.alloc (.cells #[.int .i64 x0, .int .i64 x1] 64)) = w2 at HBB c0 c1 d3 d4
      go_wp2_with fail
      (with_reducible refine (hdi.out _).mono ?_)
      rintro e w3 ⟨rfl, hb3⟩
      have HB5 := Aside0.mk hb3
      clear hb3
      go_wp2_with fail
      go_ret
      exact ⟨rfl, below_step HBB.out HB5.out⟩
    | true =>
      go_enter Try.func72, Try.ntmps72
      go_wp2_with fail
      (with_reducible refine hch.out.mono ?_)
      rintro e w1 ⟨rfl, hb1⟩
      have hB2 : Below W.heap.size W (w1.alloc (.cells #[.int .i64 x0, .int .i64 x1] 64)) := below_alloc hb1 _
      have c0 : (w1.alloc (.cells #[.int .i64 x0, .int .i64 x1] 64)).cell? ⟨w1.heap.size, 0, none⟩ = some (.int .i64 x0) := new_cell _ _ _ 0
      have c1 : (w1.alloc (.cells #[.int .i64 x0, .int .i64 x1] 64)).cell? ⟨w1.heap.size, 1, none⟩ = some (.int .i64 x1) := new_cell _ _ _ 1
      have d3 := (hB2.cell HL3.out).trans HB3.out
      have d4 := (hB2.cell HL4.out).trans HB4.out
      have HBB := Aside0.mk hB2
      have hg1 : w1.heap.size < (w1.alloc (.cells #[.int .i64 x0, .int .i64 x1] 64)).heap.size := by simp
      clear hb1 hB2
      generalize hwv : (w1.alloc (.cells #[.int .i64 x0, .int .i64 x1] 64)) = w2 at HBB c0 c1 d3 d4 hg1
      generalize hgv : w1.heap.size = g1 at c0 c1 hg1
      have C0 := Aside0.mk c0
      have C1 := Aside0.mk c1
      have G1 := Aside0.mk hg1
      clear hg1
      go_wp2_with fail
      (with_reducible refine (hdi.out _).mono ?_)
      rintro e w3 ⟨rfl, hb3⟩
      have HB5 : Aside0 (Below W.heap.size W w3) := ⟨below_step HBB.out hb3⟩
      have f0 := (hb3.cell (p := ⟨g1, 0, none⟩) G1.out).trans C0.out
      have f1 := (hb3.cell (p := ⟨g1, 1, none⟩) G1.out).trans C1.out
      have f4 := (HB5.out.cell HL4.out).trans HB4.out
      clear hb3 c0 c1 d3 d4
      go_wp2_with fail
      (with_reducible refine (hco.out w3 HB5.out).mono ?_)
      rintro e w4 ⟨rfl, hb4⟩
      have HB6 := Aside0.mk hb4
      clear hb4
      go_wp2_with fail
      go_ret
      exact ⟨by simp, below_step HB5.out HB6.out⟩
def othP (n : Int) (l : List Ch) (d : Ch) (p : Int) : Bool := decide (p ≠ d.f0) && decide (p ≠ d.f1) && joined n l p d.f0 && joined n l p d.f1
set_option maxHeartbeats 2000000 in
set_option maxRecDepth 100000 in
theorem oth_closure (W : World) (n : Int) (l : List Ch) (d : Ch) (b8 b9 b3 b4 : Nat) (h80 : W.cell? ⟨b8, 0, none⟩ = some (.int .i64 d.f0)) (h81 : W.cell? ⟨b8, 1, none⟩ = some (.int .i64 d.f1))
    (h9 : W.cell? ⟨b9, 0, none⟩ = some (.func (.func 72) #[] #[.pointer (some ⟨b3, 0, none⟩), .pointer (some ⟨b4, 0, none⟩)])) (x : Int)
    (hj : ∀ W' q, Below W.heap.size W W' → (q = d.f0 ∨ q = d.f1) → Calls Try.prog 72 #[.int .i64 x, .int .i64 q, .pointer (some ⟨b3, 0, none⟩), .pointer (some ⟨b4, 0, none⟩)] W' fun e w' => e = .returned (.bool (joined n l x q)) ∧ Below W'.heap.size W' w') :
    Calls Try.prog 77 #[.int .i64 x, .pointer (some ⟨b8, 0, none⟩), .pointer (some ⟨b9, 0, none⟩)] W fun e w' => e = .returned (.bool (othP n l d x)) ∧ Below W.heap.size W w' := by
  have hlt8 := World.block_lt_of_cell? W _ h80
  have hlt9 := World.block_lt_of_cell? W _ h9
  have hu2 := Try.underlying64
  have hu3 := Try.underlying82
  have hj0 := fun W' hW => hj W' d.f0 hW (.inl rfl)
  have hj1 := fun W' hW => hj W' d.f1 hW (.inr rfl)
  unfold othP
  generalize joined n l x d.f0 = r0 at hj0 ⊢
  generalize joined n l x d.f1 = r1 at hj1 ⊢
  generalize d.f0 = x0 at h80 hj0 ⊢
  generalize d.f1 = x1 at h81 hj1 ⊢
  clear hj
  replace hj0 := Aside0.mk hj0
  replace hj1 := Aside0.mk hj1
  have H8 := Aside0.mk h80
  have H81 := Aside0.mk h81
  have H9 := Aside0.mk h9
  have HL8 := Aside0.mk hlt8
  have HL9 := Aside0.mk hlt9
  clear hlt8 hlt9
  by_cases e0 : x = x0
  · have n0 : (x != x0) = false := by simp [e0]
    have d0 : decide (x ≠ x0) = false := by simp [e0]
    rw [d0]
    clear e0 d0
    go_enter Try.func77, Try.ntmps77
    go_wp2_with fail
    go_ret
    exact ⟨rfl, Below.refl _ _⟩
  · have n0 : (x != x0) = true := by simp [e0]
    have d0 : decide (x ≠ x0) = true := by simp [e0]
    rw [d0]
    clear e0 d0
    by_cases e1 : x = x1
    · have n1 : (x != x1) = false := by simp [e1]
      have d1 : decide (x ≠ x1) = false := by simp [e1]
      rw [d1]
      clear e1 d1
      go_enter Try.func77, Try.ntmps77
      go_wp2_with fail
      go_ret
      exact ⟨rfl, Below.refl _ _⟩
    · have n1 : (x != x1) = true := by simp [e1]
      have d1 : decide (x ≠ x1) = true := by simp [e1]
      rw [d1]
      clear e1 d1
      cases r0 with
      | false =>
        go_enter Try.func77, Try.ntmps77
        go_wp2_with fail
        (with_reducible refine (hj0.out _ (Below.refl _ _)).mono ?_)
        rintro e w1 ⟨rfl, hb1⟩
        have HB1 := Aside0.mk hb1
        clear hb1 h80 h81 h9
        go_wp2_with fail
        go_ret
        exact ⟨rfl, HB1.out⟩
      | true =>
        go_enter Try.func77, Try.ntmps77
        go_wp2_with fail
        (with_reducible refine (hj0.out _ (Below.refl _ _)).mono ?_)
        rintro e w1 ⟨rfl, hb1⟩
        have HB1 := Aside0.mk hb1
        have k81 := (hb1.cell HL8.out).trans H81.out
        have k9 := (hb1.cell HL9.out).trans H9.out
        clear hb1 h80 h81 h9
        go_wp2_with fail
        (with_reducible refine (hj1.out _ HB1.out).mono ?_)
        rintro e w2 ⟨rfl, hb2⟩
        have HB2 := Aside0.mk hb2
        clear hb2 k81 k9
        go_wp2_with fail
        go_ret
        exact ⟨by simp, below_step HB1.out HB2.out⟩
end Go.Proofs.Yteeghncofacmhaa.Q
end
section
/- impl.ordered at chords: the sort, and Compact where no two are alike; walked by hand. -/
namespace Go.Proofs.Yteeghncofacmhaa.Q
open Go.RowKit Go.Proofs.YteeghncofacmhaaW.PrintWords Go.Proofs.YteeghncofacmhaaW.PrintLast Go.Proofs.YteeghncofacmhaaW.PrintMore Go.Sort
attribute [local go_sem] max2_int min2_int max_two min_two max_three min_three max_four min_four
set_option linter.unusedVariables false
set_option linter.unusedSimpArgs false
attribute [local go_sem high] eqA64
def chCells (x : Ch) : List Value := [.int .i64 x.f0, .int .i64 x.f1]
theorem R_raw {W : World} {B : Nat} {ok : Nat → Prop} {v : Value} {xs : List Ch} (h : Kd.R k64 64 W B ok v xs) : (Kd.raw 2).R 64 W B ok v (xs.map chCells) := by
  obtain ⟨hok, inner, ho, h1, h2⟩ := h
  refine ⟨hok, inner, by rw [List.length_map]; exact ho, by rw [List.length_map]; exact h1, fun j p hp => ?_⟩
  rw [List.getElem?_map] at hp
  obtain ⟨x, hx, rfl⟩ := Option.map_eq_some_iff.1 hp
  have h3 : ((inner.drop (j * 2)).take 2) = chCells x := k64_openM (h2 j x hx)
  refine ⟨h3, congrArg List.length h3, fun u hu => ?_⟩
  have hu' : u ∈ (inner.drop (j * 2)).take 2 := hu
  rw [h3] at hu'
  simp [chCells] at hu'
  rcases hu' with rfl | rfl <;> rfl
theorem raw_R {W : World} {B : Nat} {ok : Nat → Prop} {v : Value} {xs : List Ch} (h : (Kd.raw 2).R 64 W B ok v (xs.map chCells)) : Kd.R k64 64 W B ok v xs := by
  obtain ⟨hok, inner, ho, h1, h2⟩ := h
  rw [List.length_map] at ho h1
  refine ⟨hok, inner, ho, h1, fun j x hx => ?_⟩
  have h3 := h2 j (chCells x) (by rw [List.getElem?_map, hx]; rfl)
  have h4 : ((inner.drop (j * 2)).take 2) = chCells x := h3.1
  show k64.M W B _ x ((inner.drop (j * 2)).take 2)
  rw [h4]
  exact k64_mkM W B _ x
def rgC (x : Ch) : RG Ch := ⟨chCells x, 0, 0, x⟩
theorem rgC_v (xs : List Ch) : (xs.map rgC).map RG.v = xs.map chCells := by rw [List.map_map]; rfl
theorem O_of_R {W : World} {B : Nat} {v : Value} {xs : List Ch} (h : Kd.R k64 64 W B (fun _ => True) v xs) : RgO 2 64 W B v (xs.map rgC) := by
  unfold RgO; rw [rgC_v]; exact R_raw h
theorem R_of_O {W : World} {B : Nat} {v : Value} {xs : List Ch} (h : RgO 2 64 W B v (xs.map rgC)) : Kd.R k64 64 W B (fun _ => True) v xs := by
  unfold RgO at h; rw [rgC_v] at h; exact raw_R h
theorem or_cmp (x y : Ch) : (if (if x.f0 < y.f0 then (-1 : Int) else if x.f0 > y.f0 then 1 else 0) = 0 then (if x.f1 < y.f1 then (-1 : Int) else if x.f1 > y.f1 then 1 else 0) else (if x.f0 < y.f0 then (-1 : Int) else if x.f0 > y.f0 then 1 else 0)) = cmpCh x y := by
  unfold cmpCh
  by_cases h1 : x.f0 < y.f0
  · rw [if_pos h1, if_pos h1]; rfl
  · rw [if_neg h1, if_neg h1]
    by_cases h2 : x.f0 > y.f0
    · rw [if_pos h2, if_pos h2]; rfl
    · rw [if_neg h2, if_neg h2, if_pos rfl]
theorem ends_grow (w w8 : World) (o1 o2 : Obj) (hw : ((w.alloc o1).alloc o2).drew = w8) (n1 n2 : Nat) (o3 : Obj) (n3 : Nat) : ∃ q os', (((w8.drewN n1).drewN n2).alloc o3).drewN n3 = grow (w.drewN q) os' := by
  subst hw
  refine ⟨1 + n1 + n2 + n3, #[o1, o2, o3], ?_⟩
  have e1 : ((w.alloc o1).alloc o2).drew = grow (w.drewN 1) #[o1, o2] := by
    rw [alloc_eq_grow, alloc_eq_grow, grow_grow]; rfl
  have e2 : ∀ (u : World) (os : Array Obj) (k : Nat), (grow u os).drewN k = grow (u.drewN k) os := fun _ _ _ => rfl
  rw [e1]
  simp only [alloc_eq_grow, e2, grow_grow, World.drewN_drewN]
  congr 1
set_option maxHeartbeats 8000000 in
set_option maxRecDepth 100000 in
theorem cmp_chs (W : World) (x y : Ch) : Calls Try.prog 95 #[.agg #[.int .i64 x.f0, .int .i64 x.f1], .agg #[.int .i64 y.f0, .int .i64 y.f1]] W fun e w' => e = .returned (.int .i64 (cmpCh x y)) ∧ ∃ q os', w' = grow (W.drewN q) os' := by
  have hu := Try.underlying64
  have cA := fun w => cmp_Compare_int.calls x.f0 y.f0 _ w (cmpInt_eq x.f0 y.f0)
  have cB := fun w => cmp_Compare_int.calls x.f1 y.f1 _ w (cmpInt_eq x.f1 y.f1)
  have hor := or_cmp x y
  generalize (if x.f0 < y.f0 then (-1 : Int) else if x.f0 > y.f0 then 1 else 0) = z1 at cA hor
  generalize (if x.f1 < y.f1 then (-1 : Int) else if x.f1 > y.f1 then 1 else 0) = z2 at cB hor
  obtain ⟨k, hk⟩ := cmpOr_ev z1 z2
  rw [hor] at hk
  have cO : ∀ w : World, Calls Try.prog 130 #[.slice (some ⟨w.heap.size, 0, none⟩) 2 2] (w.alloc (.cells #[.int .i64 z1, .int .i64 z2] 3)) fun e w' => e = .returned (.int .i64 (cmpCh x y)) ∧ Drawn0 (w.alloc (.cells #[.int .i64 z1, .int .i64 z2] 3)) w' := fun w => by
    have hR : (Kd.int .i64).R 3 (w.alloc (.cells #[.int .i64 z1, .int .i64 z2] 3)) w.heap.size (fun _ => True) (.slice (some ⟨w.heap.size, 0, none⟩) 2 2) [z1, z2] :=
      ⟨fun _ _ => trivial, [.int .i64 z1, .int .i64 z2], World.ownsRow_lit w #[.int .i64 z1, .int .i64 z2] 2 (Nat.le_refl _) (by decide) rfl, Reps.one rfl (Reps.one rfl (Reps.none _ _))⟩
    exact cmp_Or_int.calls k _ 2 [z1, z2] _ _ (Kd.R_reads' hR).2.2 (Nat.le_refl _) (hk k (Nat.le_refl _))
  replace cA := Aside0.mk cA
  replace cB := Aside0.mk cB
  replace cO := Aside0.mk cO
  generalize cmpCh x y = r at cO ⊢
  clear hor hk
  generalize x.f0 = x0 at cA ⊢
  generalize x.f1 = x1 at cB ⊢
  generalize y.f0 = y0 at cA ⊢
  generalize y.f1 = y1 at cB ⊢
  go_enter Try.func95, Try.ntmps95
  go_wp2_with fail
  have b1 : (((W.alloc (.cells #[.int .i64 x0, .int .i64 x1] 64)).alloc (.cells #[.int .i64 y0, .int .i64 y1] 64)).drew).heap[W.heap.size]? = some (.cells #[.int .i64 x0, .int .i64 x1] 64 (0, 0)) :=
    (Below.heap_alloc (W.alloc (.cells #[.int .i64 x0, .int .i64 x1] 64)) _ W.heap.size (by simp)).trans (new_block _ _)
  have b2 : (((W.alloc (.cells #[.int .i64 x0, .int .i64 x1] 64)).alloc (.cells #[.int .i64 y0, .int .i64 y1] 64)).drew).heap[W.heap.size + 1]? = some (.cells #[.int .i64 y0, .int .i64 y1] 64 (0, 0)) := by
    have h := new_block (W.alloc (.cells #[.int .i64 x0, .int .i64 x1] 64)) (.cells #[.int .i64 y0, .int .i64 y1] 64)
    rw [show (W.alloc (.cells #[.int .i64 x0, .int .i64 x1] 64)).heap.size = W.heap.size + 1 by simp] at h
    exact h
  generalize hg1 : W.heap.size = g1 at b1 b2 ⊢
  clear hg1
  generalize g1 + 1 = g2 at b2 ⊢
  refine start_ (n := 13) (S := fun w' => w'.cell? ⟨g1, 0, none⟩ = some (.int .i64 x0) ∧ w'.cell? ⟨g1, 1, none⟩ = some (.int .i64 x1) ∧ w'.cell? ⟨g2, 0, none⟩ = some (.int .i64 y0) ∧ w'.cell? ⟨g2, 1, none⟩ = some (.int .i64 y1)) (ds := []) #[false, false, false, false, false, false, false, false, false, false, false, false, false] (by kernel_rfl) rfl rfl ⟨(blk_cell b1 0).trans rfl, (blk_cell b1 1).trans rfl, (blk_cell b2 0).trans rfl, (blk_cell b2 1).trans rfl⟩ (fun hHeld => ?_)
  refine with_tabW impl_compareChords.tab1 impl_compareChords.bits1 (fun HT_ HW_ => ?_)
  generalize hw8 : ((W.alloc (.cells #[.int .i64 x0, .int .i64 x1] 64)).alloc (.cells #[.int .i64 y0, .int .i64 y1] 64)).drew = w8 at b1 b2 hHeld ⊢
  replace hw8 := Aside0.mk hw8
  refine pure_ (i := 0) (N := some 5) (v := ?_) (a' := ?_) #[true, false, false, false, false, false, false, false, false, false, false, false, false] rfl rfl (any_of HT_.out (by kernel_rfl)) (fun _ _ _ h => h) (Or.inl ⟨by rfl, ?_⟩) ?_ ?_
  rotate_left
  · intro w'
    go_simp
    with_reducible rfl
  rotate_left
  · simp only [Act.put, List.setIfInBounds_toArray, List.set_cons_zero, List.set_cons_succ, i64_w, i32_w]
    rfl
  refine pure_ (i := 2) (N := some 7) (v := ?_) (a' := ?_) #[true, false, true, false, false, false, false, false, false, false, false, false, false] rfl rfl (any_of HT_.out (by kernel_rfl)) (fun _ _ _ h => h) (Or.inl ⟨by rfl, ?_⟩) ?_ ?_
  rotate_left
  · intro w'
    go_simp
    with_reducible rfl
  rotate_left
  · simp only [Act.put, List.setIfInBounds_toArray, List.set_cons_zero, List.set_cons_succ, i64_w, i32_w]
    rfl
  refine pure_ (i := 5) (N := some 10) (v := ?_) (a' := ?_) #[true, false, true, false, false, true, false, false, false, false, false, false, false] rfl rfl (any_of HT_.out (by kernel_rfl)) (fun _ _ _ h => h) (Or.inl ⟨by rfl, ?_⟩) ?_ ?_
  rotate_left
  · intro w'
    go_simp
    with_reducible rfl
  rotate_left
  · simp only [Act.put, List.setIfInBounds_toArray, List.set_cons_zero, List.set_cons_succ, i64_w, i32_w]
    rfl
  refine pure_ (i := 7) (N := some 12) (v := ?_) (a' := ?_) #[true, false, true, false, false, true, false, true, false, false, false, false, false] rfl rfl (any_of HT_.out (by kernel_rfl)) (fun _ _ _ h => h) (Or.inl ⟨by rfl, ?_⟩) ?_ ?_
  rotate_left
  · intro w'
    go_simp
    with_reducible rfl
  rotate_left
  · simp only [Act.put, List.setIfInBounds_toArray, List.set_cons_zero, List.set_cons_succ, i64_w, i32_w]
    rfl
  refine take_ (i := 1) (N := some 6) (v := ?_) (a' := ?_) #[true, true, true, false, false, true, false, true, false, false, false, false, false] rfl rfl (take_ofW HT_.out HW_.out (by kernel_rfl)) (fun _ _ _ h => h) (Or.inl ⟨by rfl, ?_⟩) hHeld ?_ ?_
  rotate_left
  · rintro w' ⟨s0, s1, s2, s3⟩
    go_simp
    with_reducible rfl
  rotate_left
  · simp only [Act.put, List.setIfInBounds_toArray, List.set_cons_zero, List.set_cons_succ, i64_w, i32_w]
    rfl
  refine take_ (i := 3) (N := some 8) (v := ?_) (a' := ?_) #[true, true, true, true, false, true, false, true, false, false, false, false, false] rfl rfl (take_ofW HT_.out HW_.out (by kernel_rfl)) (fun _ _ _ h => h) (Or.inl ⟨by rfl, ?_⟩) hHeld ?_ ?_
  rotate_left
  · rintro w' ⟨s0, s1, s2, s3⟩
    go_simp
    with_reducible rfl
  rotate_left
  · simp only [Act.put, List.setIfInBounds_toArray, List.set_cons_zero, List.set_cons_succ, i64_w, i32_w]
    rfl
  refine take_ (i := 6) (N := some 11) (v := ?_) (a' := ?_) #[true, true, true, true, false, true, true, true, false, false, false, false, false] rfl rfl (take_ofW HT_.out HW_.out (by kernel_rfl)) (fun _ _ _ h => h) (Or.inl ⟨by rfl, ?_⟩) hHeld ?_ ?_
  rotate_left
  · rintro w' ⟨s0, s1, s2, s3⟩
    go_simp
    with_reducible rfl
  rotate_left
  · simp only [Act.put, List.setIfInBounds_toArray, List.set_cons_zero, List.set_cons_succ, i64_w, i32_w]
    rfl
  refine take_ (i := 8) (N := some 13) (v := ?_) (a' := ?_) #[true, true, true, true, false, true, true, true, true, false, false, false, false] rfl rfl (take_ofW HT_.out HW_.out (by kernel_rfl)) (fun _ _ _ h => h) (Or.inl ⟨by rfl, ?_⟩) hHeld ?_ ?_
  rotate_left
  · rintro w' ⟨s0, s1, s2, s3⟩
    go_simp
    with_reducible rfl
  rotate_left
  · simp only [Act.put, List.setIfInBounds_toArray, List.set_cons_zero, List.set_cons_succ, i64_w, i32_w]
    rfl
  refine one_ (i := 4) (N := some 9) #[true, true, true, true, true, true, true, true, true, false, false, false, false] rfl rfl (one_of HT_.out (by kernel_rfl)) (by decide) (fun K hK => ?_)
  refine goes_ Try.func131 (by kernel_rfl) rfl #[.int .i64 x0, .int .i64 y0] (by rfl) rfl rfl (by (try simp only [List.map_toArray, List.map_cons, List.map_nil]); first | done | rfl) ?_
  with_reducible refine (cA.out _).mono ?_
  rintro e w' ⟨rfl, ⟨nd4, rfl⟩⟩
  refine ⟨_, rfl, ?_⟩
  refine hK.out _ _ ⟨(blk_cell b1 0).trans rfl, (blk_cell b1 1).trans rfl, (blk_cell b2 0).trans rfl, (blk_cell b2 1).trans rfl⟩ (fun hHeld => ?_)
  clear hK K
  refine norm_ (a' := ?_) ?_ ?_
  rotate_left
  · show Act.put _ (some 9) _ = _
    simp only [Act.put, List.setIfInBounds_toArray, List.set_cons_zero, List.set_cons_succ, i64_w, i32_w]
    rfl
  refine one_ (i := 9) (N := some 14) #[true, true, true, true, true, true, true, true, true, true, false, false, false] rfl rfl (one_of HT_.out (by kernel_rfl)) (by decide) (fun K hK => ?_)
  refine goes_ Try.func131 (by kernel_rfl) rfl #[.int .i64 x1, .int .i64 y1] (by rfl) rfl rfl (by (try simp only [List.map_toArray, List.map_cons, List.map_nil]); first | done | rfl) ?_
  with_reducible refine (cB.out _).mono ?_
  rintro e w' ⟨rfl, ⟨nd9, rfl⟩⟩
  refine ⟨_, rfl, ?_⟩
  refine hK.out _ _ ⟨(blk_cell b1 0).trans rfl, (blk_cell b1 1).trans rfl, (blk_cell b2 0).trans rfl, (blk_cell b2 1).trans rfl⟩ (fun hHeld => ?_)
  clear hK K
  refine norm_ (a' := ?_) ?_ ?_
  rotate_left
  · show Act.put _ (some 14) _ = _
    simp only [Act.put, List.setIfInBounds_toArray, List.set_cons_zero, List.set_cons_succ, i64_w, i32_w]
    rfl
  refine one_ (i := 10) (N := some 15) #[true, true, true, true, true, true, true, true, true, true, true, false, false] rfl rfl (one_of HT_.out (by kernel_rfl)) (by decide) (fun K hK => ?_)
  refine event_step (v := .slice (some ⟨((w8.drewN nd4).drewN nd9).heap.size, 0, none⟩) 2 2) (w1 := ((w8.drewN nd4).drewN nd9).alloc (.cells #[.int .i64 z1, .int .i64 z2] 3)) rfl (by first | (go_simp; done) | (go_simp; rfl)) ?_
  have b1' := Below.block (below_alloc (Below.refl _ ((w8.drewN nd4).drewN nd9)) (.cells #[.int .i64 z1, .int .i64 z2] 3)) g1 (Array.getElem?_eq_some_iff.1 b1).1
  have b2' := Below.block (below_alloc (Below.refl _ ((w8.drewN nd4).drewN nd9)) (.cells #[.int .i64 z1, .int .i64 z2] 3)) g2 (Array.getElem?_eq_some_iff.1 b2).1
  replace b1 := b1'.trans b1
  replace b2 := b2'.trans b2
  clear b1' b2'
  refine hK.out _ _ ⟨(blk_cell b1 0).trans rfl, (blk_cell b1 1).trans rfl, (blk_cell b2 0).trans rfl, (blk_cell b2 1).trans rfl⟩ (fun hHeld => ?_)
  clear hK K
  refine norm_ (a' := ?_) ?_ ?_
  rotate_left
  · show Act.put _ (some 15) _ = _
    simp only [Act.put, List.setIfInBounds_toArray, List.set_cons_zero, List.set_cons_succ, i64_w, i32_w]
    rfl
  refine one_ (i := 11) (N := some 16) #[true, true, true, true, true, true, true, true, true, true, true, true, false] rfl rfl (one_of HT_.out (by kernel_rfl)) (by decide) (fun K hK => ?_)
  refine goes_ Try.func130 (by kernel_rfl) rfl #[.slice (some ⟨((w8.drewN nd4).drewN nd9).heap.size, 0, none⟩) 2 2] (by rfl) rfl rfl (by (try simp only [List.map_toArray, List.map_cons, List.map_nil]); first | done | rfl) ?_
  with_reducible refine (cO.out ((w8.drewN nd4).drewN nd9)).mono ?_
  rintro e w' ⟨rfl, ⟨nd11, rfl⟩⟩
  refine ⟨_, rfl, ?_⟩
  refine hK.out _ _ ⟨(blk_cell b1 0).trans rfl, (blk_cell b1 1).trans rfl, (blk_cell b2 0).trans rfl, (blk_cell b2 1).trans rfl⟩ (fun hHeld => ?_)
  clear hK K
  refine norm_ (a' := ?_) ?_ ?_
  rotate_left
  · show Act.put _ (some 16) _ = _
    simp only [Act.put, List.setIfInBounds_toArray, List.set_cons_zero, List.set_cons_succ, i64_w, i32_w]
    rfl
  refine pure_ (i := 12) (N := some 4) (v := ?_) (a' := ?_) #[true, true, true, true, true, true, true, true, true, true, true, true, true] rfl rfl (any_of HT_.out (by kernel_rfl)) (fun _ _ _ h => h) (Or.inl ⟨by rfl, ?_⟩) ?_ ?_
  rotate_left
  · intro w'
    go_simp
    with_reducible rfl
  rotate_left
  · simp only [Act.put, List.setIfInBounds_toArray, List.set_cons_zero, List.set_cons_succ, i64_w, i32_w]
    rfl
  refine done_ (done_of HT_.out (by kernel_rfl)) ?_
  try go_wp2
  go_ret
  exact ⟨rfl, ends_grow W w8 _ _ hw8.out nd4 nd9 _ nd11⟩
def chLe (c d : Ch) : Bool := !chLt d c
theorem chLt_trans' (a b c : Ch) (h1 : chLt a b = true) (h2 : chLt b c = true) : chLt a c = true := by
  unfold chLt at *; simp only [decide_eq_true_iff] at *; omega
theorem chLt_ntrans (a b c : Ch) (h1 : chLt a b = false) (h2 : chLt b c = false) : chLt a c = false := by
  unfold chLt at *; simp only [decide_eq_false_iff_not] at *; omega
theorem chLt_total' (a b : Ch) (h1 : chLt a b = false) (h2 : chLt b a = false) : a = b := by
  unfold chLt at *; simp only [decide_eq_false_iff_not] at *; exact ch_ext (by omega) (by omega)
theorem chLt_self (a : Ch) : chLt a a = false := by unfold chLt; simp
theorem cmpCh_ltOf (c d : Ch) : Go.Proofs.ltOf cmpCh c d = chLt c d := by
  show decide (cmpCh c d < 0) = chLt c d
  have h := cmpCh_lt c d
  by_cases hn : cmpCh c d ≥ 0
  · rw [decide_eq_true hn] at h
    rw [decide_eq_false (by omega)]
    cases hb : chLt c d with
    | false => rfl
    | true => rw [hb] at h; cases h
  · rw [decide_eq_false hn] at h
    rw [decide_eq_true (by omega)]
    cases hb : chLt c d with
    | true => rfl
    | false => rw [hb] at h; cases h
set_option maxHeartbeats 1000000 in
theorem sort_chs (W : World) (B blk cap : Nat) (xs : List Ch) (hR : Kd.R k64 64 W B (fun _ => True) (.slice (some ⟨blk, 0, none⟩) xs.length cap) xs) (hn : 0 < xs.length) (hN : xs.length < 4611686018427387904) :
    Calls Try.prog 117 #[.slice (some ⟨blk, 0, none⟩) xs.length cap, .func (.func 95) #[] #[]] W fun e w' => e = .returned (.tuple #[]) ∧
      Kd.R k64 64 w' B (fun _ => True) (.slice (some ⟨blk, 0, none⟩) xs.length cap) (xs.mergeSort chLe) ∧ W.heap.size ≤ w'.heap.size ∧ ∀ w : World, Below w.heap.size w W → w.heap.size ≤ blk → Below w.heap.size w w' := by
  haveI : Inhabited Ch := ⟨z64⟩
  have hO := O_of_R hR
  have hl : (xs.map rgC).length = xs.length := by simp
  rw [← hl] at hO
  have hd : (xs.toArray).size = xs.length := by simp
  have hSW : SWO (Go.Proofs.ltOf cmpCh) :=
    ⟨fun i => by rw [cmpCh_ltOf]; exact chLt_self _, fun i j k h1 h2 => by rw [cmpCh_ltOf] at *; exact chLt_trans' _ _ _ h1 h2, fun i j k h1 h2 => by rw [cmpCh_ltOf] at *; exact chLt_ntrans _ _ _ h1 h2⟩
  have hT : ∀ i j : Ch, Go.Proofs.ltOf cmpCh i j = false → Go.Proofs.ltOf cmpCh j i = false → i = j := fun i j h1 h2 => by
    rw [cmpCh_ltOf] at h1 h2
    exact chLt_total' _ _ h1 h2
  obtain ⟨cells, hcells⟩ := hO.typed blk rfl
  have hblk : blk < W.heap.size := (Array.getElem?_eq_some_iff.1 hcells).1
  have eg : ∀ args w, (callFunc 95 args).run Try.prog w = .ok (.enter 95 args) w := enters_of Try.func95 (by kernel_rfl) rfl
  have hcmp : CmpLays Try.prog 95 #[] chCells 2 cmpCh blk 0 (xs.toArray).size W := fun m os dk _ i j => cmp_chs _ i j
  have hlen2 : ∀ x, (chCells x).length = 2 := fun _ => rfl
  have hone : ∀ x, ∀ u ∈ chCells x, u.oneCell' = true := fun x u hu => by
    simp [chCells] at hu; rcases hu with rfl | rfl <;> rfl
  have hq0 : (xs.map rgC).map RG.v = xs.toArray.toList.map chCells := rgC_v xs
  have hH : HoldsK chCells 2 W blk 0 xs.toArray := RgO.holds chCells (by decide) hlen2 hO _ hq0
  have hS := AnyQ.slices_SortFunc_total Try.lSortCh 2 Try.isAgg64 Try.sizeOf64 chCells hlen2 hone cmpCh hSW 95 #[] blk 0 cap xs.toArray W eg hcmp hH hblk (by rw [hd]; exact hN) hT
  rw [hd] at hS
  refine hS.mono ?_
  rintro e w' ⟨rfl, m, os, rfl⟩
  refine ⟨rfl, ?_, sortK_size .., fun w hb hB => sortK_below _ _ _ _ _ _ _ _ hb (Nat.le_refl _) hB⟩
  have hms : (xs.toArray.toList.mergeSort fun x y => !(Go.Proofs.ltOf cmpCh) y x) = xs.mergeSort chLe := by
    show xs.mergeSort _ = _
    congr 1
    funext x y
    rw [cmpCh_ltOf]; rfl
  have h := RgO.sort (qs := (xs.mergeSort chLe).map rgC) chCells (by decide) hlen2 hone hO (xs.toArray.toList.mergeSort fun x y => !(Go.Proofs.ltOf cmpCh) y x).toArray (by simp) (by rw [List.toList_toArray, hms]; exact rgC_v _) m os
  rw [hl] at h
  exact R_of_O h
set_option maxHeartbeats 4000000 in
set_option maxRecDepth 100000 in
theorem compact_apart (A : Option Addr) (c : Nat) (xs : List Ch) (W : World) (hC : Kd.C k64 W A xs.length xs) (hc : xs.length ≤ c) (hn : xs.length ≤ 1000000) (hne : ∀ i, i + 1 < xs.length → rd_T64 xs ((i + 1 : Nat) : Int) ≠ rd_T64 xs (i : Int)) :
    Calls Try.prog 118 #[.slice A xs.length c] W fun e w' => e = .returned (.slice A xs.length c) ∧ Drawn0 W w' := by
  have HC := Aside0.mk hC
  have HNE := Aside0.mk hne
  clear hC hne
  have hu := Try.underlying64
  by_cases h2 : xs.length < 2
  · have h2b : decide ((xs.length : Int) < 2) = true := decide_eq_true (by omega)
    go_enter Try.func118, Try.ntmps118
    go_wp2_with fail
    go_ret
    exact ⟨rfl, ⟨0, rfl⟩⟩
  · have h2b : decide ((xs.length : Int) < 2) = false := decide_eq_false (by omega)
    go_enter Try.func118, Try.ntmps118
    go_wp2_with fail
    go_loopw [3] (fun v3 wr => ∃ (k : Nat), v3 = .int .i64 ((k + 1 : Nat) : Int) ∧ Aside0 (k + 1 ≤ xs.length) ∧ Aside0 (Drawn0 W wr)) (fun v3 _ => xs.length - (intOf v3).toNat)
    case atStart => exact ⟨0, rfl, ⟨by omega⟩, ⟨⟨0, rfl⟩⟩⟩
    case round =>
      obtain ⟨k, rfl, hk, hD⟩ := hrel
      obtain ⟨nd, rfl⟩ := hD.out
      replace hk := hk.out
      by_cases hlt : k + 1 < xs.length
      · have hl : decide (((k + 1 : Nat) : Int) < (xs.length : Int)) = true := decide_eq_true (by omega)
        obtain ⟨ad, ea, hx0, hx1⟩ := at_T64 HC.out ((k + 1 : Nat) : Int) (by omega) (by omega)
        cases ea
        obtain ⟨ad', ea, hy0, hy1⟩ := at_T64 HC.out (k : Int) (by omega) (by omega)
        cases ea
        have hap := HNE.out k hlt
        have hb : ((rd_T64 xs ((k + 1 : Nat) : Int)).f0 == (rd_T64 xs (k : Int)).f0 && ((rd_T64 xs ((k + 1 : Nat) : Int)).f1 == (rd_T64 xs (k : Int)).f1)) = false := by
          rw [Bool.and_eq_false_iff]
          by_cases e0 : (rd_T64 xs ((k + 1 : Nat) : Int)).f0 = (rd_T64 xs (k : Int)).f0
          · right
            rw [beq_eq_false_iff_ne]
            exact fun e1 => hap (ch_ext e0 e1)
          · left
            rw [beq_eq_false_iff_ne]
            exact e0
        generalize rd_T64 xs ((k + 1 : Nat) : Int) = u at hx0 hx1 hb
        generalize rd_T64 xs (k : Int) = v at hy0 hy1 hb
        have hw1 : IntKind.i64.wrap (((k + 1 : Nat) : Int) - 1) = (k : Int) := by rw [i64_w, w64s (by omega) (by omega)]; omega
        have hw2 : wrap64 (((k + 1 : Nat) : Int) + 1) = ((k + 1 + 1 : Nat) : Int) := by rw [w64s (by omega) (by omega)]; omega
        have hm : Aside0 (xs.length - (k + 1) ≤ xs.length - (k + 1)) := ⟨Nat.le_refl _⟩
        have p1 := eq_true (show (0 : Int) ≤ ((k + 1 : Nat) : Int) by omega)
        have q1 := eq_true (show ((k + 1 : Nat) : Int) < (xs.length : Int) by omega)
        have p2 := eq_true (show (0 : Int) ≤ (k : Int) by omega)
        have q2 := eq_true (show (k : Int) < (xs.length : Int) by omega)
        have hkk : Aside0 (((k + 1 : Nat) : Int) = (k : Int) + 1) := ⟨by omega⟩
        clear hap h2
        have hlt' := Aside0.mk hlt
        have hk' := Aside0.mk hk
        clear hlt hk hD hn hc h2b
        generalize hK1 : ((k + 1 : Nat) : Int) = k1 at hx0 hx1 hl hw1 hw2 p1 q1 hkk
        replace hK1 := Aside0.mk hK1
        generalize hK0 : (k : Int) = k0 at hy0 hy1 hw1 p2 q2 hkk
        replace hK0 := Aside0.mk hK0
        replace hw2 := Aside0.mk hw2
        go_wp2_with fail
        go_quiet (fail)
        go_wp2_with fail
        go_roundw
        case rel => exact ⟨k + 1, by rw [hw2.out], ⟨by have := hlt'.out; omega⟩, ⟨⟨_, rfl⟩⟩⟩
        case measure => rw [hw2.out, ← hK1.out]; have := hlt'.out; simp [intOf]; omega
      · have hl : decide (((k + 1 : Nat) : Int) < (xs.length : Int)) = false := decide_eq_false (by omega)
        go_wp2_with fail
        go_ret
        exact ⟨rfl, ⟨nd, rfl⟩⟩
theorem flat_len : ∀ l : List Ch, (l.flatMap chCells).length = l.length * 2
  | [] => rfl
  | x :: l => by rw [List.flatMap_cons, List.length_append, flat_len l, List.length_cons]; show 2 + _ = _; omega
theorem flat_at : ∀ (l : List Ch) (j : Nat) (hj : j < l.length), ((l.flatMap chCells).drop (j * 2)).take 2 = chCells l[j]
  | x :: l, 0, _ => rfl
  | x :: l, j + 1, hj => by
    rw [List.flatMap_cons, show (j + 1) * 2 = (chCells x).length + j * 2 by show _ = 2 + j * 2; omega, List.drop_length_add_append]
    exact flat_at l j (by simpa using hj)
theorem flat_get (l : List Ch) (j : Nat) (hj : j < l.length) (i : Nat) (hi : i < 2) : (l.flatMap chCells)[j * 2 + i]? = (chCells l[j])[i]? := by
  rw [← flat_at l j hj, List.getElem?_take, if_pos hi, List.getElem?_drop]
set_option maxHeartbeats 1000000 in
theorem clone_chs (W : World) (A : Option Addr) (c : Nat) (l : List Ch) (hC : Kd.C k64 W A l.length l) (hn : 0 < l.length) (hl2 : l.length ≤ 1000000) :
    Calls Try.prog 78 #[.slice A l.length c] W fun e w' => ∃ v : Value, e = .returned v ∧ Kd.R k64 64 w' W.heap.size (fun _ => True) v l ∧ Below W.heap.size W w' := by
  obtain ⟨_, hmax, hR⟩ := hC
  obtain ⟨ad, ea, hcell⟩ := hR hn
  cases ea
  have hspot : ad.spot = none := by
    obtain ⟨cs, h1, h2, h3⟩ := hcell 0 l[0] (List.getElem?_eq_getElem hn)
    have h4 := h3 0 (.int .i64 l[0].f0) (by rw [k64_open h2]; rfl)
    have e0 : ad.add (0 * 2 + 0) = ad := by simp [Addr.add]
    have h4' : W.cell? (ad.add (0 * 2 + 0)) = some (.int .i64 l[0].f0) := h4
    rw [e0] at h4'
    unfold World.cell? at h4'
    split at h4'
    · split at h4'
      · cases h4'
      · rename_i hs; simpa using hs
    · cases h4'
  obtain ⟨b, off, sp⟩ := ad
  cases hspot
  obtain ⟨i0, hi, hz0, hz1, hz2⟩ := info_parts info64
  have h := AnyE.slices_Clone Try.lCloneCh i0 _ 2 16 hi hz0 hz1 hz2 rfl (by decide) Try.sizeOf64 b off l.length c (l.flatMap chCells) W (flat_len l) hmax (by omega)
    (fun j u hj => by
      have hlt : j < l.length * 2 := by
        have := (List.getElem?_eq_some_iff.1 hj).1
        rwa [flat_len] at this
      have hd : j / 2 < l.length := by omega
      have hm : j / 2 * 2 + j % 2 = j := by omega
      rw [← hm, flat_get l (j / 2) hd (j % 2) (by omega)] at hj
      obtain ⟨cs, h1, h2, h3⟩ := hcell (j / 2) l[j / 2] (List.getElem?_eq_getElem hd)
      have h4 := h3 (j % 2) u (by rw [k64_open h2]; exact hj)
      have h5 : W.cell? ((⟨b, off, none⟩ : Addr).add (j / 2 * 2 + j % 2)) = some u := h4
      rw [hm] at h5
      rwa [add_at] at h5)
    (fun u hu => by
      obtain ⟨x, _, hx⟩ := List.mem_flatMap.1 hu
      simp [chCells] at hx
      rcases hx with rfl | rfl <;> rfl)
  refine h.mono ?_
  rintro e w' ⟨v, rfl, ho, _, hb⟩
  refine ⟨v, rfl, ⟨fun _ _ => trivial, l.flatMap chCells, ho, flat_len l, fun j x hx => ?_⟩, hb⟩
  obtain ⟨hj, rfl⟩ := List.getElem?_eq_some_iff.1 hx
  show k64.M w' _ _ l[j] (((l.flatMap chCells).drop (j * 2)).take 2)
  rw [flat_at l j hj]
  exact k64_mkM _ _ _ _
theorem merge_apart {xs : List Ch} (hnd : xs.Nodup) : ∀ i, i + 1 < (xs.mergeSort chLe).length → rd_T64 (xs.mergeSort chLe) ((i + 1 : Nat) : Int) ≠ rd_T64 (xs.mergeSort chLe) (i : Int) := fun i hi he => by
  have h2 : (xs.mergeSort chLe).Nodup := (List.mergeSort_perm xs chLe).nodup_iff.2 hnd
  rw [rdT_at hi, rdT_at (show i < (xs.mergeSort chLe).length by omega)] at he
  have := List.pairwise_iff_getElem.1 (List.nodup_iff_pairwise_ne.1 h2) i (i + 1) (by omega) hi (by omega)
  exact this he.symm
set_option maxHeartbeats 1000000 in
theorem ordered_apart (w W : World) (v : Value) (xs : List Ch) (hB : Below w.heap.size w W) (hR : Kd.R k64 64 W w.heap.size (fun _ => True) v xs) (hn : 0 < xs.length) (hN : xs.length ≤ 1000000) (hnd : xs.Nodup) :
    Calls Try.prog 79 #[v] W fun e w' => e = .returned v ∧ Kd.R k64 64 w' w.heap.size (fun _ => True) v (xs.mergeSort chLe) ∧ Below w.heap.size w w' := by
  obtain ⟨blk, cap, rfl, hgb, hgl, _⟩ := Kd.R_form hR hn
  have hS := sort_chs W w.heap.size blk cap xs hR hn (by omega)
  have hms : (xs.mergeSort chLe).length = xs.length := List.length_mergeSort _
  have hcm : ∀ W' : World, Kd.R k64 64 W' w.heap.size (fun _ => True) (.slice (some ⟨blk, 0, none⟩) xs.length cap) (xs.mergeSort chLe) → Calls Try.prog 118 #[.slice (some ⟨blk, 0, none⟩) xs.length cap] W' fun e w' => e = .returned (.slice (some ⟨blk, 0, none⟩) xs.length cap) ∧ Drawn0 W' w' := fun W' hR' => by
    have h1 := Kd.R_reads' hR'
    have := compact_apart (some ⟨blk, 0, none⟩) cap (xs.mergeSort chLe) W' h1.2.2 (by rw [hms]; exact h1.2.1) (by omega) (merge_apart hnd)
    rwa [hms] at this
  replace hS := Aside0.mk hS
  replace hcm := Aside0.mk hcm
  have HB := Aside0.mk hB
  have HG := Aside0.mk hgb
  clear hB hR hgb hgl hms hnd hn hN
  go_enter Try.func79, Try.ntmps79
  go_wp2_with fail
  (with_reducible refine hS.out.mono ?_)
  rintro e w1 ⟨rfl, hR1, _, hb1⟩
  have HR1 := Aside0.mk hR1
  have HB1 := Aside0.mk (hb1 w HB.out HG.out)
  clear hR1 hb1
  go_wp2_with fail
  (with_reducible refine (hcm.out w1 HR1.out).mono ?_)
  rintro e w2 ⟨rfl, ⟨nd, rfl⟩⟩
  go_wp2_with fail
  go_ret
  exact ⟨rfl, Kd.R_drewN HR1.out nd, pw_below_drewN HB1.out nd⟩
end Go.Proofs.Yteeghncofacmhaa.Q
end
section
/- impl.FlipDiagonal by hand. -/
namespace Go.Proofs.Yteeghncofacmhaa.Q
open Go.RowKit Go.Proofs.YteeghncofacmhaaW.PrintWords Go.Proofs.YteeghncofacmhaaW.PrintLast Go.Proofs.YteeghncofacmhaaW.PrintMore
attribute [local go_sem] max2_int min2_int max_two min_two max_three min_three max_four min_four
set_option linter.unusedVariables false
set_option linter.unusedSimpArgs false
theorem skip_step {P : Program} {o : Oper} {a : Act} {Kc : Act → World → Prop} {Q : Exit → Act → World → Prop} {ops : Array Oper} {W w1 : World} (hw : Region.wanted o (yielded ops a.tmps) = true) (hN : o.dst = none) (hrun : (execOp a.eval o).run P W = .ok .skip w1) (h : Kc (a.put none undef) w1) : if Region.wanted o (yielded ops a.tmps) = true then Oper.wp P o a W Kc Q else Kc (a.put o.dst undef) W := by
  rw [if_pos hw]
  unfold Oper.wp
  rw [hrun]
  show Kc (a.put o.dst undef) w1
  rw [hN]
  exact h
def impl_FlipDiagonal.T7 : Bool × List (List Nat × List Nat) := (true, [([], []), ([], []), ([], []), ([2], [2]), ([3], [3]), ([], []), ([5], [5]), ([6], [6]), ([4, 7], [4, 7]), ([0, 1, 0, 1, 2, 3, 4, 5, 6, 7, 8], [0, 1]), ([9, 8, 8, 0, 1, 2, 3, 4, 5, 6, 7, 8], [8, 9])])
def impl_FlipDiagonal.B7 : List Nat := [0, 0, 0, 4, 12, 0, 32, 96, 252, 511, 1023]
theorem impl_FlipDiagonal.tab7 : rtab .any (opsOf Try.f27 7) = impl_FlipDiagonal.T7 := by kernel_rfl
theorem impl_FlipDiagonal.bits7 : waitsOk impl_FlipDiagonal.T7.2 impl_FlipDiagonal.B7 = true := by kernel_rfl
def flipped (n : Int) (l : List Ch) (k : Int) : List Ch := (l.set k.toNat (mkCh (rd (others n l (rd_T64 l k)) 0) (rd (others n l (rd_T64 l k)) 1))).mergeSort chLe
set_option maxHeartbeats 4000000 in
set_option maxRecDepth 100000 in
theorem implFlip_true (a0 : Int) (A : Option Addr) (c : Nat) (l : List Ch) (k : Int) (w : World) (hr : Kd.C k64 w A l.length l) (hc : l.length ≤ c) (hp : tri a0 l = true) (hk0 : 0 ≤ k) (hk1 : k < l.length)
    (o1 o2 : Int) (hoth : others a0 l (rd_T64 l k) = [o1, o2]) (hnd : (l.set k.toNat (mkCh o1 o2)).Nodup) :
    Calls Try.prog 27 #[.int .i64 a0, .slice A l.length c, .int .i64 k] w fun e w' => ∃ v0_ : Value, e = .returned (.tuple #[v0_, .bool true]) ∧ Kd.R k64 64 w' w.heap.size (fun _ => True) v0_ ((l.set k.toNat (mkCh o1 o2)).mergeSort chLe) ∧ Below w.heap.size w w' := by
  have hg := plane_good (tri_plane hp)
  have hl40 := good_len hg
  have hn := good_n hg
  have hok := good_ok hg
  have hB0 : Below w.heap.size w ((w.alloc (.cells #[.int .i64 a0] 3)).alloc (.cells #[.slice A l.length c] 27)) := below_alloc (below_alloc (Below.refl _ w) _) _
  have hK4 : ((w.alloc (.cells #[.int .i64 a0] 3)).alloc (.cells #[.slice A l.length c] 27)).cell? ⟨w.heap.size + 1, 0, none⟩ = some (.slice A l.length c) := by
    have h := new_cell (w.alloc (.cells #[.int .i64 a0] 3)) #[.slice A l.length c] 27 0
    rw [show (w.alloc (.cells #[.int .i64 a0] 3)).heap.size = w.heap.size + 1 by simp] at h
    exact h
  have hK3 : ((w.alloc (.cells #[.int .i64 a0] 3)).alloc (.cells #[.slice A l.length c] 27)).cell? ⟨w.heap.size, 0, none⟩ = some (.int .i64 a0) :=
    ((below_alloc (Below.refl _ (w.alloc (.cells #[.int .i64 a0] 3))) _).cell (p := ⟨w.heap.size, 0, none⟩) (by simp)).trans (new_cell _ _ _ 0)
  have h71 := impl_leavesTriangles.calls a0 A c l _ _ (Kd.C_below hr hB0) hc (by unfold impl_leavesTriangles.f; rw [if_pos (by omega), hp])
  generalize hwb : ((w.alloc (.cells #[.int .i64 a0] 3)).alloc (.cells #[.slice A l.length c] 27)) = wb at hB0 hK3 hK4 h71
  generalize hgw : w.heap.size = g3 at hK3 hK4
  have hL3 := World.block_lt_of_cell? wb _ hK3
  have hL4 := World.block_lt_of_cell? wb _ hK4
  generalize hg4 : g3 + 1 = g4 at hK4 hL4
  have hwi := fun W => impl_within.calls k 0 ((l.length : Int) - 1) true W (by rw [within_eq]; congr 1; rw [decide_eq_true_iff]; omega)
  have hsub : IntKind.i64.wrap ((l.length : Int) - 1) = (l.length : Int) - 1 := by rw [i64_w, w64s (by omega) (by omega)]
  have hsub2 : IntKind.i64.wrap (a0 - 1) = a0 - 1 := by rw [i64_w, w64s (by omega) (by omega)]
  have HC := Aside0.mk hr
  have Hc := Aside0.mk hc
  have HB0 := Aside0.mk hB0
  have H3 := Aside0.mk hK3
  have H4 := Aside0.mk hK4
  have L3 := Aside0.mk hL3
  have L4 := Aside0.mk hL4
  replace h71 := Aside0.mk h71
  replace hwi := Aside0.mk hwi
  replace hoth := Aside0.mk hoth
  replace hnd := Aside0.mk hnd
  replace hok := Aside0.mk hok
  have hu := Try.underlying27
  have hu2 := Try.underlying64
  have Hn := Aside0.mk hn
  have Hl := Aside0.mk hl40
  have p1 := eq_true hk0
  have q1 := eq_true hk1
  have q2 : decide (k < (l.length : Int)) = true := decide_eq_true hk1
  have Hk := Aside0.mk (And.intro hk0 hk1)
  clear hr hc hB0 hL3 hL4 hg hn hl40 hp hk0 hk1
  go_enter Try.func27, Try.ntmps27
  go_wp2_with fail
  (with_reducible refine h71.out.mono ?_)
  rintro e w1 ⟨rfl, hb1⟩
  have k3 := (hb1.cell (p := ⟨g3, 0, none⟩) L3.out).trans H3.out
  have k4 := (hb1.cell (p := ⟨g4, 0, none⟩) L4.out).trans H4.out
  have hB1 : Below w.heap.size w w1 := below_step HB0.out hb1
  have HB1 := Aside0.mk hB1
  have K3 := Aside0.mk k3
  have K4 := Aside0.mk k4
  clear hb1 hB1 hK3 hK4
  go_wp2_with fail
  (with_reducible refine (hwi.out _).mono ?_)
  rintro e w2 ⟨rfl, ⟨nd, rfl⟩⟩
  have k32 : (w1.drewN nd).cell? ⟨g3, 0, none⟩ = some (.int .i64 a0) := K3.out
  have k42 : (w1.drewN nd).cell? ⟨g4, 0, none⟩ = some (.slice A l.length c) := K4.out
  have hB2 : Below w.heap.size w (w1.drewN nd) := pw_below_drewN HB1.out nd
  clear k3 k4 K3 K4 HB1
  generalize (w1.drewN nd) = w2 at k32 k42 hB2 ⊢
  obtain ⟨ad, ea, hx0, hx1⟩ := at_T64 (Kd.C_below HC.out hB2) k Hk.out.1 Hk.out.2
  cases ea
  have hl3 := World.block_lt_of_cell? w2 _ k32
  have hl4 := World.block_lt_of_cell? w2 _ k42
  have HB2 := Aside0.mk hB2
  clear hB2
  generalize hd0 : (rd_T64 l k).f0 = d0 at hx0
  generalize hd1 : (rd_T64 l k).f1 = d1 at hx1
  have HD0 := Aside0.mk hd0
  have HD1 := Aside0.mk hd1
  clear hd0 hd1
  go_wp2_with fail
  have hB23 : Below w2.heap.size w2 ((w2.alloc (.cells #[.int .i64 d0, .int .i64 d1] 64)).alloc (.cells #[.func (.func 72) #[] #[.pointer (some ⟨g3, 0, none⟩), .pointer (some ⟨g4, 0, none⟩)]] 82)) := below_alloc (below_alloc (Below.refl _ _) _) _
  have h80 : ((w2.alloc (.cells #[.int .i64 d0, .int .i64 d1] 64)).alloc (.cells #[.func (.func 72) #[] #[.pointer (some ⟨g3, 0, none⟩), .pointer (some ⟨g4, 0, none⟩)]] 82)).cell? ⟨w2.heap.size, 0, none⟩ = some (.int .i64 d0) := ((below_alloc (Below.refl _ _) _).cell (p := ⟨w2.heap.size, 0, none⟩) (by simp)).trans (new_cell _ _ _ 0)
  have h81 : ((w2.alloc (.cells #[.int .i64 d0, .int .i64 d1] 64)).alloc (.cells #[.func (.func 72) #[] #[.pointer (some ⟨g3, 0, none⟩), .pointer (some ⟨g4, 0, none⟩)]] 82)).cell? ⟨w2.heap.size, 1, none⟩ = some (.int .i64 d1) := ((below_alloc (Below.refl _ _) _).cell (p := ⟨w2.heap.size, 1, none⟩) (by simp)).trans (new_cell _ _ _ 1)
  have h9 : ((w2.alloc (.cells #[.int .i64 d0, .int .i64 d1] 64)).alloc (.cells #[.func (.func 72) #[] #[.pointer (some ⟨g3, 0, none⟩), .pointer (some ⟨g4, 0, none⟩)]] 82)).cell? ⟨w2.heap.size + 1, 0, none⟩ = some (.func (.func 72) #[] #[.pointer (some ⟨g3, 0, none⟩), .pointer (some ⟨g4, 0, none⟩)]) := by
    have h := new_cell (w2.alloc (.cells #[.int .i64 d0, .int .i64 d1] 64)) #[.func (.func 72) #[] #[.pointer (some ⟨g3, 0, none⟩), .pointer (some ⟨g4, 0, none⟩)]] 82 0
    rw [show (w2.alloc (.cells #[.int .i64 d0, .int .i64 d1] 64)).heap.size = w2.heap.size + 1 by simp] at h
    exact h
  have k33 := (hB23.cell (p := ⟨g3, 0, none⟩) hl3).trans k32
  have k43 := (hB23.cell (p := ⟨g4, 0, none⟩) hl4).trans k42
  have hB3 : Below w.heap.size w ((w2.alloc (.cells #[.int .i64 d0, .int .i64 d1] 64)).alloc (.cells #[.func (.func 72) #[] #[.pointer (some ⟨g3, 0, none⟩), .pointer (some ⟨g4, 0, none⟩)]] 82)) := below_step HB2.out hB23
  clear k32 k42 hl3 hl4 hx0 hx1 hB23
  generalize ((w2.alloc (.cells #[.int .i64 d0, .int .i64 d1] 64)).alloc (.cells #[.func (.func 72) #[] #[.pointer (some ⟨g3, 0, none⟩), .pointer (some ⟨g4, 0, none⟩)]] 82)) = w3 at h80 h81 h9 k33 k43 hB3 ⊢
  generalize w2.heap.size + 1 = g9 at h9 ⊢
  generalize w2.heap.size = g8 at h80 h81 ⊢
  have hN : (a0.toNat : Int) = a0 := by have := Hn.out; omega
  have hdl : rd_T64 l k ∈ l := by
    have h := @rdT_at l k.toNat (by have := Hk.out; omega)
    rw [show ((k.toNat : Nat) : Int) = k by have := Hk.out; omega] at h
    rw [h]; exact List.getElem_mem _
  have hdb := hok.out _ hdl
  have hnw := numbersWith_calls 0 a0.toNat ⟨by omega, by omega⟩ (by have := Hn.out; omega) 77 #[.pointer (some ⟨g8, 0, none⟩), .pointer (some ⟨g9, 0, none⟩)] (enters_of Try.func77 (by kernel_rfl) rfl) (othP a0 l (rd_T64 l k)) w3 (fun W' x hx0 hx1 hb' =>
    oth_closure W' a0 l (rd_T64 l k) g8 g9 g3 g4 (by rw [HD0.out]; exact (hb'.cell (World.block_lt_of_cell? _ _ h80)).trans h80) (by rw [HD1.out]; exact (hb'.cell (World.block_lt_of_cell? _ _ h81)).trans h81) ((hb'.cell (World.block_lt_of_cell? _ _ h9)).trans h9) x (fun W'' q hb'' hq =>
      join_closure W'' a0 l (some ad) c g3 g4 (by have := Hn.out; omega) (Kd.C_below HC.out (below_step (below_step hB3 hb') hb'')) Hc.out (by have := Hl.out; omega) ((hb''.cell (World.block_lt_of_cell? _ _ ((hb'.cell (World.block_lt_of_cell? _ _ k33)).trans k33))).trans ((hb'.cell (World.block_lt_of_cell? _ _ k33)).trans k33)) ((hb''.cell (World.block_lt_of_cell? _ _ ((hb'.cell (World.block_lt_of_cell? _ _ k43)).trans k43))).trans ((hb'.cell (World.block_lt_of_cell? _ _ k43)).trans k43)) x q (by have := Hn.out; omega) (by have := Hn.out; rcases hq with rfl | rfl <;> omega)))
  rw [hN, Int.zero_add] at hnw
  have hfo : (ints 0 a0.toNat).filter (othP a0 l (rd_T64 l k)) = [o1, o2] := hoth.out
  rw [hfo] at hnw
  have hl4 := World.block_lt_of_cell? w3 _ k43
  have K43 := Aside0.mk k43
  have L43 := Aside0.mk hl4
  have HB3 := Aside0.mk hB3
  replace hnw := Aside0.mk hnw
  clear h80 h81 h9 k33 k43 hB3 hN hdl hdb hfo hl4 HB2
  (with_reducible refine hnw.out.mono ?_)
  rintro e w4 ⟨v10, rfl, hR10, hb4⟩
  obtain ⟨g10, c10, rfl, hg10, hg10l, _⟩ := Kd.R_form hR10 (by simp)
  have k44 := (hb4.cell L43.out).trans K43.out
  have HB4 : Aside0 (Below w.heap.size w w4) := ⟨below_step HB3.out hb4⟩
  have hcl := clone_chs w4 (some ad) c l (Kd.C_below HC.out HB4.out) (by have := Hk.out; omega) (by have := Hl.out; omega)
  have HR10 := Aside0.mk hR10
  have G10 := Aside0.mk hg10l
  replace hcl := Aside0.mk hcl
  clear hR10 hb4 hg10 hg10l
  go_wp2_with fail
  (with_reducible refine hcl.out.mono ?_)
  rintro e w5 ⟨v11, rfl, hR11, hb5⟩
  obtain ⟨g11, c11, rfl, hg11, hg11l, _⟩ := Kd.R_form hR11 (by have := Hk.out; omega)
  have HB5 : Aside0 (Below w.heap.size w w5) := ⟨below_step HB4.out hb5⟩
  have hR10 := Kd.R_below HR10.out hb5
  have HR11 : Aside0 (Kd.R k64 64 w5 w.heap.size (fun _ => True) (.slice (some ⟨g11, 0, none⟩) l.length c11) l) := ⟨Kd.R_lower hR11 HB4.out.size⟩
  have G11 : Aside0 (w4.heap.size ≤ g11) := ⟨hg11⟩
  clear hR11 hb5 hg11 hg11l k44
  have hy0 : w5.drew.cell? ⟨g10, 0, none⟩ = some (.int .i64 o1) := (Kd.R_celln 0 hR10 0 (by omega) (by simp)).1
  have hy1 : w5.drew.cell? ⟨g10, 1, none⟩ = some (.int .i64 o2) := (Kd.R_celln 0 hR10 1 (by omega) (by simp)).1
  have hR6 := Aside0.mk (Kd.R_drew HR11.out)
  have HB6 := Aside0.mk (below_drew HB5.out)
  have G6 : Aside0 (g10 < w5.drew.heap.size) := ⟨World.block_lt_of_cell? _ _ hy0⟩
  clear hR10
  go_wp2_with fail
  refine start_ (n := 11) (S := fun w' => w'.cell? ⟨g10, 0, none⟩ = some (.int .i64 o1) ∧ w'.cell? ⟨g10, 1, none⟩ = some (.int .i64 o2)) (ds := []) #[false, false, false, false, false, false, false, false, false, false, false] (by kernel_rfl) rfl rfl ⟨hy0, hy1⟩ (fun hHeld => ?_)
  refine with_tabW impl_FlipDiagonal.tab7 impl_FlipDiagonal.bits7 (fun HT_ HW_ => ?_)
  generalize hw8 : w5.drew = w6 at hHeld hR6 HB6 hy0 hy1 G6 ⊢
  clear hw8
  refine pure_ (i := 0) (N := some 35) (v := ?_) (a' := ?_) #[true, false, false, false, false, false, false, false, false, false, false] rfl rfl (any_of HT_.out (by kernel_rfl)) (fun _ _ _ h => h) (Or.inl ⟨by rfl, ?_⟩) ?_ ?_
  rotate_left
  · intro w'
    go_simp
    with_reducible rfl
  rotate_left
  · simp only [Act.put, List.setIfInBounds_toArray, List.set_cons_zero, List.set_cons_succ, i64_w, i32_w]
    rfl
  refine pure_ (i := 1) (N := some 36) (v := ?_) (a' := ?_) #[true, true, false, false, false, false, false, false, false, false, false] rfl rfl (any_of HT_.out (by kernel_rfl)) (fun _ _ _ h => h) (Or.inl ⟨by rfl, ?_⟩) ?_ ?_
  rotate_left
  · intro w'
    go_simp
    with_reducible rfl
  rotate_left
  · simp only [Act.put, List.setIfInBounds_toArray, List.set_cons_zero, List.set_cons_succ, i64_w, i32_w]
    rfl
  refine pure_ (i := 2) (N := some 37) (v := ?_) (a' := ?_) #[true, true, true, false, false, false, false, false, false, false, false] rfl rfl (any_of HT_.out (by kernel_rfl)) (fun _ _ _ h => h) (Or.inl ⟨by rfl, ?_⟩) ?_ ?_
  rotate_left
  · intro w'
    go_simp
    with_reducible rfl
  rotate_left
  · simp only [Act.put, List.setIfInBounds_toArray, List.set_cons_zero, List.set_cons_succ, i64_w, i32_w]
    rfl
  refine pure_ (i := 5) (N := some 40) (v := ?_) (a' := ?_) #[true, true, true, false, false, true, false, false, false, false, false] rfl rfl (any_of HT_.out (by kernel_rfl)) (fun _ _ _ h => h) (Or.inl ⟨by rfl, ?_⟩) ?_ ?_
  rotate_left
  · intro w'
    go_simp
    with_reducible rfl
  rotate_left
  · simp only [Act.put, List.setIfInBounds_toArray, List.set_cons_zero, List.set_cons_succ, i64_w, i32_w]
    rfl
  refine pure_ (i := 3) (N := some 38) (v := ?_) (a' := ?_) #[true, true, true, true, false, true, false, false, false, false, false] rfl rfl (any_of HT_.out (by kernel_rfl)) (fun _ _ _ h => h) (Or.inl ⟨by rfl, ?_⟩) ?_ ?_
  rotate_left
  · intro w'
    go_simp
    with_reducible rfl
  rotate_left
  · simp only [Act.put, List.setIfInBounds_toArray, List.set_cons_zero, List.set_cons_succ, i64_w, i32_w]
    rfl
  refine pure_ (i := 6) (N := some 41) (v := ?_) (a' := ?_) #[true, true, true, true, false, true, true, false, false, false, false] rfl rfl (any_of HT_.out (by kernel_rfl)) (fun _ _ _ h => h) (Or.inl ⟨by rfl, ?_⟩) ?_ ?_
  rotate_left
  · intro w'
    go_simp
    with_reducible rfl
  rotate_left
  · simp only [Act.put, List.setIfInBounds_toArray, List.set_cons_zero, List.set_cons_succ, i64_w, i32_w]
    rfl
  refine take_ (i := 4) (N := some 39) (v := ?_) (a' := ?_) #[true, true, true, true, true, true, true, false, false, false, false] rfl rfl (take_ofW HT_.out HW_.out (by kernel_rfl)) (fun _ _ _ h => h) (Or.inl ⟨by rfl, ?_⟩) hHeld ?_ ?_
  rotate_left
  · rintro w' ⟨s0, s1⟩
    go_simp
    with_reducible rfl
  rotate_left
  · simp only [Act.put, List.setIfInBounds_toArray, List.set_cons_zero, List.set_cons_succ, i64_w, i32_w]
    rfl
  refine take_ (i := 7) (N := some 42) (v := ?_) (a' := ?_) #[true, true, true, true, true, true, true, true, false, false, false] rfl rfl (take_ofW HT_.out HW_.out (by kernel_rfl)) (fun _ _ _ h => h) (Or.inl ⟨by rfl, ?_⟩) hHeld ?_ ?_
  rotate_left
  · rintro w' ⟨s0, s1⟩
    go_simp
    with_reducible rfl
  rotate_left
  · simp only [Act.put, List.setIfInBounds_toArray, List.set_cons_zero, List.set_cons_succ, i64_w, i32_w]
    rfl
  refine one_ (i := 8) (N := some 43) #[true, true, true, true, true, true, true, true, true, false, false] rfl rfl (one_of HT_.out (by kernel_rfl)) (by decide) (fun K hK => ?_)
  refine goes_ Try.func73 (by kernel_rfl) rfl #[.int .i64 o1, .int .i64 o2] (by rfl) rfl rfl (by (try simp only [List.map_toArray, List.map_cons, List.map_nil]); first | done | rfl) ?_
  with_reducible refine (impl_chord.calls o1 o2 _ _ w6 (chord_eq o1 o2)).mono ?_
  rintro e w7 ⟨rfl, hb7⟩
  refine ⟨_, rfl, ?_⟩
  have hy07 := (hb7.cell G6.out).trans hy0
  have hy17 := (hb7.cell (p := ⟨g10, 1, none⟩) G6.out).trans hy1
  have hR7 := Kd.R_below hR6.out hb7
  have HB7 := Aside0.mk (below_step HB6.out hb7)
  obtain ⟨ce, hcl, hM, hcc, hfr⟩ := Kd.R_elem hR7 z64 k Hk.out.1 Hk.out.2
  obtain rfl := k64_openM hM
  have HP := Kd.R_seg hR7 k Hk.out.1 Hk.out.2 (seg := [.int .i64 (mkCh o1 o2).f0, .int .i64 (mkCh o1 o2).f1]) (j := 0) hcl hcc (show 2 ≤ 2 from by decide) (x' := mkCh o1 o2) (k64_mkM _ _ (fun _ => False) (mkCh o1 o2)) (fun _ hk => hk.elim)
  have hc0 : w7.cell? ⟨g11, k.toNat * 2, none⟩ = some (.int .i64 (rd_T64 l k).f0) := hcc 0 _ rfl
  have hc1 : w7.cell? ⟨g11, k.toNat * 2 + 1, none⟩ = some (.int .i64 (rd_T64 l k).f1) := hcc 1 _ rfl
  have hf0 : w7.frozen? ⟨g11, k.toNat * 2, none⟩ = false := hfr 0
  have hf1 : w7.frozen? ⟨g11, k.toNat * 2 + 1, none⟩ = false := hfr 1
  replace HP := Aside0.mk HP
  clear hcl hM hcc hfr hR7 hb7 hy0 hy1 hR6 HB6
  refine hK.out _ _ ⟨hy07, hy17⟩ (fun hHeld => ?_)
  clear hK K
  refine norm_ (a' := ?_) ?_ ?_
  rotate_left
  · show Act.put _ (some 43) _ = _
    simp only [Act.put, List.setIfInBounds_toArray, List.set_cons_zero, List.set_cons_succ, i64_w, i32_w]
    rfl
  refine pure_ (i := 9) (N := some 44) (v := ?_) (a' := ?_) #[true, true, true, true, true, true, true, true, true, true, false] rfl rfl (any_of HT_.out (by kernel_rfl)) (fun _ _ _ h => h) (Or.inl ⟨by rfl, ?_⟩) ?_ ?_
  rotate_left
  · intro w'
    go_simp
    with_reducible rfl
  rotate_left
  · simp only [Act.put, List.setIfInBounds_toArray, List.set_cons_zero, List.set_cons_succ, i64_w, i32_w]
    rfl
  refine one_ (i := 10) (N := none) #[true, true, true, true, true, true, true, true, true, true, true] rfl rfl (one_of HT_.out (by kernel_rfl)) (by decide) (fun K hK => ?_)
  refine skip_step (w1 := (w7.setCell ⟨g11, k.toNat * 2, none⟩ (.int .i64 (mkCh o1 o2).f0)).setCell ⟨g11, k.toNat * 2 + 1, none⟩ (.int .i64 (mkCh o1 o2).f1)) rfl rfl (by first | (go_simp; done) | (go_simp; rfl)) ?_
  have hP1 : Kd.R k64 64 ((w7.setCell ⟨g11, k.toNat * 2, none⟩ (.int .i64 (mkCh o1 o2).f0)).setCell ⟨g11, k.toNat * 2 + 1, none⟩ (.int .i64 (mkCh o1 o2).f1)) w.heap.size (fun _ => True) (.slice (some ⟨g11, 0, none⟩) l.length c11) (l.set k.toNat (mkCh o1 o2)) := HP.out.1
  have hP2 : w7.grownBy ((w7.setCell ⟨g11, k.toNat * 2, none⟩ (.int .i64 (mkCh o1 o2).f0)).setCell ⟨g11, k.toNat * 2 + 1, none⟩ (.int .i64 (mkCh o1 o2).f1)) (some g11) := HP.out.2
  have hne : g10 ≠ g11 := by have := G10.out; have := G11.out; omega
  have hy08 := hP2.cell hy07 (fun e => hne (Option.some.inj e))
  have hy18 := hP2.cell hy17 (fun e => hne (Option.some.inj e))
  have HB8 : Aside0 (Below w.heap.size w ((w7.setCell ⟨g11, k.toNat * 2, none⟩ (.int .i64 (mkCh o1 o2).f0)).setCell ⟨g11, k.toNat * 2 + 1, none⟩ (.int .i64 (mkCh o1 o2).f1))) := ⟨HB7.out.grown hP2 HB7.out.size (fun k hk => by have := G11.out; have := HB4.out.size; injection hk with hk; omega)⟩
  generalize ((w7.setCell ⟨g11, k.toNat * 2, none⟩ (.int .i64 (mkCh o1 o2).f0)).setCell ⟨g11, k.toNat * 2 + 1, none⟩ (.int .i64 (mkCh o1 o2).f1)) = w8 at hP1 HB8 hy08 hy18 ⊢
  have HR8 := Aside0.mk hP1
  clear hP1 hP2 HP hc0 hc1 hf0 hf1 hy07 hy17
  refine hK.out _ _ ⟨hy08, hy18⟩ (fun hHeld => ?_)
  clear hK K
  refine norm_ (a' := ?_) ?_ ?_
  rotate_left
  · show Act.put _ none _ = _
    simp only [Act.put, List.setIfInBounds_toArray, List.set_cons_zero, List.set_cons_succ, i64_w, i32_w]
    rfl
  refine done_ (done_of HT_.out (by kernel_rfl)) ?_
  have hor := ordered_apart w w8 _ _ HB8.out HR8.out (by rw [List.length_set]; have := Hk.out; omega) (by rw [List.length_set]; have := Hl.out; omega) hnd.out
  replace hor := Aside0.mk hor
  go_wp2_with fail
  (with_reducible refine hor.out.mono ?_)
  rintro e w9 ⟨rfl, hR9, hb9⟩
  have HR9 := Aside0.mk hR9
  have HB9 := Aside0.mk hb9
  clear hR9 hb9
  go_wp2_with fail
  go_ret2
  exact ⟨_, rfl, by rw [← hgw]; exact HR9.out, by rw [← hgw]; exact HB9.out⟩
end Go.Proofs.Yteeghncofacmhaa.Q
end
