/- The proof of FnExactEndRegions, part 6 of 6; no condition: the statement as it is given. Merged by pack.py out of this session's texts. -/
import Derived.StillTailTactics
import Derived.Shelf.Abstract
import Derived.Test.YteeghncofacmhaaRows
import Derived.WalkKit
import Derived.ProofKit
import Derived.OpenShut
import Derived.ChangeOld
import Derived.Below
import Derived.SizedLaws
import Derived.Test.YteeghncofacmhaaMe0
import Derived.Test.YteeghncofacmhaaMe4
import Derived.Test.YteeghncofacmhaaMe3
import Derived.Test.YteeghncofacmhaaMe2
section
namespace Go.Proofs.Yteeghncofacmhaa.Q
open Go.RowKit Go.Proofs.YteeghncofacmhaaW.PrintWords Go.Proofs.YteeghncofacmhaaW.PrintLast Go.Proofs.YteeghncofacmhaaW.PrintMore
attribute [local go_sem] max2_int min2_int max_two min_two max_three min_three max_four min_four   -- for this text's walks alone
set_option linter.unusedVariables false
set_option linter.unusedSimpArgs false
/-! ### laws_heldIntS: function 18 -/
def laws_heldIntS.l0 : Nat → List Int → Int → Int → Option (Int)
  | 0, _, _, _ => none
  | k + 1, x0, x1, x5 => if x5 < (x0.length : Int) then (if 0 ≤ x5 then (if (rd x0 x5) = x1 then (laws_heldIntS.l0 k x0 (wrap64 (x1 + 1)) (wrap64 (x5 + 1))) else (some (-1))) else (none)) else (some x1)
def laws_heldIntS.f (k : Nat) (l0 : List Int) (a1 : Int) : Option (Int) := laws_heldIntS.l0 k l0 a1 0
set_option maxHeartbeats 8000000 in
set_option maxRecDepth 100000 in
theorem laws_heldIntS.calls (k : Nat) (A0 : Option Addr) (c0 : Nat) (l0 : List Int) (a1 : Int) (r : Int) (w : World) (hr0 : Kd.C (Kd.int .i64) w A0 l0.length l0) (hc0 : l0.length ≤ c0) (h : laws_heldIntS.f k l0 a1 = some r) :
    Calls Try.prog 18 #[.slice A0 l0.length c0, .int .i64 a1] w fun e w' => e = .returned (.int .i64 r) ∧ Drawn0 w w' := by
  have HR0 := Aside0.mk hr0
  have HC0 := Aside0.mk hc0
  clear hr0 hc0
  have H : (laws_heldIntS.l0 k l0 a1 0) = some r := h
  clear h
  have H' := Aside0.mk H
  clear H
  go_enter Try.func18, Try.ntmps18
  go_wp2
  go_loopg [1, 5] k (fun kq v1 v5 w' => ∃ (x1_1 : Int) (x5_1 : Int), v1 = .int .i64 x1_1 ∧ v5 = .int .i64 x5_1 ∧ Aside0 (laws_heldIntS.l0 kq l0 x1_1 x5_1 = some r) ∧ Aside0 (kq ≤ k) ∧ Drawn0 w w')
  case atStart => exact ⟨(a1), (0), (by first | rfl | (simp; done) | (simp [*]; done)), (by first | rfl | (simp; done) | (simp [*]; done)), H', ⟨Nat.le_refl _⟩, by repeat (first | exact Drawn0.refl _ | apply Drawn0.step)⟩
  case round =>
    clear H'
    try clear c1
    try clear p2
    obtain ⟨x1_1, x5_1, rfl, rfl, HA, HK1, ⟨m1, rfl⟩⟩ := hrel
    cases gk with
    | zero => exact absurd HA.out (by simp [laws_heldIntS.l0])
    | succ k1 =>
      have H := HA.out
      clear HA
      simp only [laws_heldIntS.l0] at H
      by_cases c3 : x5_1 < (l0.length : Int)
      · rw [if_pos c3] at H
        have c3b0 : decide (x5_1 < (l0.length : Int)) = true := decide_eq_true c3
        clear c3
        by_cases c4 : 0 ≤ x5_1
        · rw [if_pos c4] at H
          have c4b0 : decide (0 ≤ x5_1) = true := decide_eq_true c4
          clear c4
          by_cases c5 : (rd l0 x5_1) = x1_1
          · rw [if_pos c5] at H
            have c5b0 : ((rd l0 x5_1) == x1_1) = true := beq_iff_eq.mpr c5
            have c5b1 : ((rd l0 x5_1) != x1_1) = false := bne_eq_false_iff_eq.mpr c5
            clear c5
            have H' := Aside0.mk H
            clear H
            have p101 : 0 ≤ (x5_1 : Int) := of_decide_eq_true (by first | (with_reducible assumption) | assumption)
            have q101 : x5_1 < (l0.length : Int) := of_decide_eq_true (by first | (with_reducible assumption) | assumption)
            obtain ⟨ad101, e101, hx101_0⟩ := Kd.at_int HR0.out x5_1 p101 q101
            cases e101
            replace p101 := eq_true p101
            replace q101 := eq_true q101
            go_wp2
            go_roundg k1
            case measure => have := HK1.out; omega
            case rel => exact ⟨(wrap64 (x1_1 + 1)), (wrap64 (x5_1 + 1)), (by first | rfl | (simp; done) | (simp [*]; done)), (by first | rfl | (simp; done) | (simp [*]; done)), H', ⟨by have := HK1.out; omega⟩, by repeat (first | exact Drawn0.refl _ | apply Drawn0.step)⟩
          · rw [if_neg c5] at H
            have c5b0 : ((rd l0 x5_1) == x1_1) = false := beq_eq_false_iff_ne.mpr c5
            have c5b1 : ((rd l0 x5_1) != x1_1) = true := bne_iff_ne.mpr c5
            obtain rfl := Option.some.inj H
            have p101 : 0 ≤ (x5_1 : Int) := of_decide_eq_true (by first | (with_reducible assumption) | assumption)
            have q101 : x5_1 < (l0.length : Int) := of_decide_eq_true (by first | (with_reducible assumption) | assumption)
            obtain ⟨ad101, e101, hx101_0⟩ := Kd.at_int HR0.out x5_1 p101 q101
            cases e101
            replace p101 := eq_true p101
            replace q101 := eq_true q101
            go_wp2
            go_ret
            exact ⟨by first | rfl | (simp; done) | (simp [*]; done), by repeat (first | exact Drawn0.refl _ | apply Drawn0.step)⟩
        · rw [if_neg c4] at H
          exact absurd H (by simp)
      · rw [if_neg c3] at H
        have c3b0 : decide (x5_1 < (l0.length : Int)) = false := decide_eq_false c3
        clear c3
        obtain rfl := Option.some.inj H
        go_wp2
        go_ret
        exact ⟨by first | rfl | (simp; done) | (simp [*]; done), by repeat (first | exact Drawn0.refl _ | apply Drawn0.step)⟩
end Go.Proofs.Yteeghncofacmhaa.Q
end
section
/- What the laws' own helpers compute: rows copied, compared, marked and held. -/
namespace Go.Proofs.Yteeghncofacmhaa.Q
open Go.RowKit Go.Proofs.YteeghncofacmhaaW.PrintWords Go.Proofs.YteeghncofacmhaaW.PrintLast Go.Proofs.YteeghncofacmhaaW.PrintMore
set_option linter.unusedVariables false
set_option linter.unusedSimpArgs false
def toCh (l : List S66) : List Ch := l.map fun c => ⟨c.f0, c.f1⟩
theorem toCh_length (l : List S66) : (toCh l).length = l.length := by simp [toCh]
theorem rdL_at {xs : List S66} {i : Nat} (h : i < xs.length) : rd_T66 xs (i : Int) = xs[i] := by
  simp [rd_T66, List.getD_eq_getElem?_getD, List.getElem?_eq_getElem h]
theorem szChordS_eq (l : List S66) (hl : l.length ≤ 9223372036854775807) : laws_szChordS.f l 1048576 = some (if 1048576 < l.length then -1 else 1048576 - (l.length : Int)) := by
  have hw : wrap64 (1048576 - (l.length : Int)) = 1048576 - (l.length : Int) := by unfold wrap64; omega
  unfold laws_szChordS.f
  rw [hw]
  by_cases h : 1048576 < l.length
  · rw [if_pos (by omega), if_pos h]
  · rw [if_neg (by omega), if_neg h]
theorem set_mid {α : Type} (a : List α) (b : List α) (x : α) (i : Nat) (hi : i < b.length) (ha : a.length = i) (hb : a.length ≤ i) : (a ++ b.drop i).set i x = (a ++ [x]) ++ b.drop (i + 1) := by
  rw [List.set_append_right _ _ (by omega), List.drop_eq_getElem_cons hi, ha, Nat.sub_self, List.set_cons_zero, List.append_assoc]
  rfl
theorem toChordS_ev (l : List S66) (hl : l.length ≤ 1048576) : Ev (fun k => laws_toChordS.f k l) (toCh l) := by
  have key : ∀ (d i : Nat), i + d = l.length → Ev (fun k => laws_toChordS.l0 k l ((toCh l).take i ++ (List.replicate l.length z64).drop i) (i : Int)) (toCh l) := by
    intro d
    induction d with
    | zero =>
      intro i hd
      refine Ev.some_ fun k => ?_
      simp only [laws_toChordS.l0]
      rw [if_neg (by omega)]
      obtain rfl : i = l.length := by omega
      rw [List.drop_eq_nil_of_le (by simp), List.take_of_length_le (by rw [toCh_length]; exact Nat.le_refl _), List.append_nil]
    | succ d ih =>
      intro i hd
      have hi : i < l.length := by omega
      have hti : ((toCh l).take i).length = i := by rw [List.length_take, toCh_length]; omega
      refine Ev.step (fun k => ?_) (ih (i + 1) (by omega))
      simp only [laws_toChordS.l0, laws_toChord.f, Option.bind_some]
      rw [if_pos (by omega), if_pos (by omega), if_pos (by rw [List.length_append, hti, List.length_drop, List.length_replicate]; omega), w64 hi (by omega), Int.toNat_natCast, rdL_at hi, set_mid _ _ _ i (by simpa using hi) hti (by omega), List.take_succ_eq_append_getElem (by rw [toCh_length]; exact hi)]
      simp [toCh]
  unfold laws_toChordS.f
  refine Ev.congr (f := fun k => laws_toChordS.l0 k l (List.replicate l.length z64) 0) (fun k => ?_) ?_
  · rw [if_pos (by omega), Int.toNat_natCast, if_pos (by omega)]
  · have := key l.length 0 (by omega)
    simpa using this
theorem eqIntS_refl (a : List Int) (hl : a.length ≤ 4611686018427387904) : Ev (fun k => laws_eqIntS.f k a a) true := by
  have key : ∀ (d i : Nat), i + d = a.length → Ev (fun k => laws_eqIntS.l0 k a a (i : Int)) true := by
    intro d
    induction d with
    | zero =>
      intro i hd
      refine Ev.some_ fun k => ?_
      simp only [laws_eqIntS.l0]
      rw [if_neg (by omega)]
    | succ d ih =>
      intro i hd
      refine Ev.step (fun k => ?_) (ih (i + 1) (by omega))
      simp only [laws_eqIntS.l0]
      rw [if_pos (by omega), if_pos (by omega), if_pos (by omega), if_pos trivial, w64 (n := a.length) (by omega) hl]
  unfold laws_eqIntS.f
  refine Ev.congr (f := fun k => laws_eqIntS.l0 k a a 0) (fun k => by rw [if_pos rfl]) (key a.length 0 (by omega))
theorem eqChordS_refl (a : List Ch) (hl : a.length ≤ 4611686018427387904) : Ev (fun k => laws_eqChordS.f k a a) true := by
  have key : ∀ (d i : Nat), i + d = a.length → Ev (fun k => laws_eqChordS.l0 k a a (i : Int)) true := by
    intro d
    induction d with
    | zero =>
      intro i hd
      refine Ev.some_ fun k => ?_
      simp only [laws_eqChordS.l0]
      rw [if_neg (by omega)]
    | succ d ih =>
      intro i hd
      refine Ev.step (fun k => ?_) (ih (i + 1) (by omega))
      simp only [laws_eqChordS.l0, laws_eqChord.f]
      rw [if_pos (by omega), if_pos (by omega), if_pos (by omega), if_pos trivial, if_pos trivial, Option.bind_some, if_pos rfl, w64 (n := a.length) (by omega) hl]
  unfold laws_eqChordS.f
  refine Ev.congr (f := fun k => laws_eqChordS.l0 k a a 0) (fun k => by rw [if_pos rfl]) (key a.length 0 (by omega))
theorem markChordS_ev (l : List Ch) (hl : l.length ≤ 1048576) : ∃ m l', 0 ≤ m ∧ Ev (fun k => laws_markChordS.f k l 1) (m, l') := by
  have key : ∀ (d i : Nat) (x : List Ch) (m : Int), i + d = x.length → x.length ≤ 1048576 → 0 ≤ m → m ≤ 1 + 2 * (i : Int) → ∃ m' l', 0 ≤ m' ∧ Ev (fun k => laws_markChordS.l0 k x m (i : Int)) (m', l') := by
    intro d
    induction d with
    | zero =>
      intro i x m hd _ hm _
      refine ⟨m, x, hm, Ev.some_ fun k => ?_⟩
      simp only [laws_markChordS.l0]
      rw [if_neg (by omega)]
    | succ d ih =>
      intro i x m hd hx hm hm2
      obtain ⟨m', l', h0, h1⟩ := ih (i + 1) ((x.set i (⟨m, (rd_T64 x i).f1⟩ : Ch)).set i (⟨(rd_T64 (x.set i (⟨m, (rd_T64 x i).f1⟩ : Ch)) i).f0, m + 1⟩ : Ch)) (m + 2) (by simp; omega) (by simp; omega) (by omega) (by omega)
      refine ⟨m', l', h0, Ev.step (fun k => ?_) h1⟩
      simp only [laws_markChordS.l0, Option.bind_some]
      rw [if_pos (by omega), if_pos (by omega), Int.toNat_natCast, w64s (x := m + 1) (by omega) (by omega), w64s (x := m + 1 + 1) (by omega) (by omega), w64 (n := x.length) (by omega) (by omega), show m + 1 + 1 = m + 2 by omega]
  exact key l.length 0 l 1 (by omega) hl (by omega) (by omega)
theorem markIntS_ev (l : List Int) (a : Int) (hl : l.length ≤ 1000000000000) (ha : 0 ≤ a ∧ a ≤ 1000000000000) : Ev (fun k => laws_markIntS.f k l a) (a + (l.length : Int), ints a l.length) := by
  have key : ∀ (d i : Nat), i + d = l.length → Ev (fun k => laws_markIntS.l0 k (ints a i ++ l.drop i) (a + (i : Int)) (i : Int)) (a + (l.length : Int), ints a l.length) := by
    intro d
    induction d with
    | zero =>
      intro i hd
      refine Ev.some_ fun k => ?_
      simp only [laws_markIntS.l0]
      obtain rfl : i = l.length := by omega
      have hil : (ints a l.length).length = l.length := by simp [ints]
      rw [List.drop_eq_nil_of_le (Nat.le_refl _), List.append_nil, if_neg (by omega)]
    | succ d ih =>
      intro i hd
      have hil : (ints a i).length = i := by simp [ints]
      refine Ev.step (fun k => ?_) (ih (i + 1) (by omega))
      simp only [laws_markIntS.l0]
      rw [if_pos (by rw [List.length_append, hil, List.length_drop]; omega), if_pos (by omega), Int.toNat_natCast, w64s (x := a + (i : Int) + 1) (by omega) (by omega), w64 (n := l.length) (by omega) (by omega), set_mid _ _ _ i (by omega) hil (by omega), show a + ((i + 1 : Nat) : Int) = a + (i : Int) + 1 by omega, ints_append]
      simp [ints]
  unfold laws_markIntS.f
  have := key l.length 0 (by omega)
  simpa [ints] using this
theorem heldIntS_ev (n : Nat) (a : Int) (hl : n ≤ 1000000000000) (ha : 0 ≤ a ∧ a ≤ 1000000000000) : Ev (fun k => laws_heldIntS.f k (ints a n) a) (a + (n : Int)) := by
  have hil : (ints a n).length = n := by simp [ints]
  have key : ∀ (d i : Nat), i + d = n → Ev (fun k => laws_heldIntS.l0 k (ints a n) (a + (i : Int)) (i : Int)) (a + (n : Int)) := by
    intro d
    induction d with
    | zero =>
      intro i hd
      refine Ev.some_ fun k => ?_
      simp only [laws_heldIntS.l0]
      rw [hil, if_neg (by omega), show i = n by omega]
    | succ d ih =>
      intro i hd
      have hi : i < (ints a n).length := by omega
      refine Ev.step (fun k => ?_) (ih (i + 1) (by omega))
      have hv : (ints a n)[i] = a + (i : Int) := by simp [ints]
      simp only [laws_heldIntS.l0]
      rw [if_pos (by omega), if_pos (by omega), rd_at hi, hv, if_pos rfl, w64s (x := a + (i : Int) + 1) (by omega) (by omega), w64 (n := n) (by omega) (by omega), show a + ((i + 1 : Nat) : Int) = a + (i : Int) + 1 by omega]
  unfold laws_heldIntS.f
  have := key n 0 (by omega)
  simpa using this
end Go.Proofs.Yteeghncofacmhaa.Q
end
section
namespace Go.Proofs.Yteeghncofacmhaa.Q
open Go.RowKit Go.Proofs.YteeghncofacmhaaW.PrintWords Go.Proofs.YteeghncofacmhaaW.PrintLast Go.Proofs.YteeghncofacmhaaW.PrintMore
attribute [local go_sem] max2_int min2_int max_two min_two max_three min_three max_four min_four   -- for this text's walks alone
set_option linter.unusedVariables false
set_option linter.unusedSimpArgs false
/-! ### laws_eqIntSS: function 23 -/
def laws_eqIntSS.l0 : Nat → List (List Int) → List (List Int) → Int → Option (Bool)
  | 0, _, _, _ => none
  | k + 1, x0, x1, x5 => if x5 < (x0.length : Int) then (if 0 ≤ x5 then (if x5 < (x1.length : Int) then ((laws_eqIntS.f k (rd_L4 x0 x5) (rd_L4 x1 x5)).bind fun t103 => (if t103 = true then (laws_eqIntSS.l0 k x0 x1 (wrap64 (x5 + 1))) else (some false))) else (none)) else (none)) else (some true)
def laws_eqIntSS.f (k : Nat) (l0 : List (List Int)) (l1 : List (List Int)) : Option (Bool) := if (l0.length : Int) = (l1.length : Int) then (laws_eqIntSS.l0 k l0 l1 0) else (some false)
end Go.Proofs.Yteeghncofacmhaa.Q
end
section
namespace Go.Proofs.Yteeghncofacmhaa.Q
open Go.RowKit Go.Proofs.YteeghncofacmhaaW.PrintWords Go.Proofs.YteeghncofacmhaaW.PrintLast Go.Proofs.YteeghncofacmhaaW.PrintMore
attribute [local go_sem] max2_int min2_int max_two min_two max_three min_three max_four min_four   -- for this text's walks alone
set_option linter.unusedVariables false
set_option linter.unusedSimpArgs false
/-! ### laws_heldIntSS: function 25 -/
def laws_heldIntSS.l0 : Nat → List (List Int) → Int → Int → Option (Int)
  | 0, _, _, _ => none
  | k + 1, x0, x1, x5 => if x5 < (x0.length : Int) then (if 0 ≤ x5 then ((laws_heldIntS.f k (rd_L4 x0 x5) x1).bind fun t102 => (if t102 < 0 then (some (-1)) else (laws_heldIntSS.l0 k x0 t102 (wrap64 (x5 + 1))))) else (none)) else (some x1)
def laws_heldIntSS.f (k : Nat) (l0 : List (List Int)) (a1 : Int) : Option (Int) := laws_heldIntSS.l0 k l0 a1 0
end Go.Proofs.Yteeghncofacmhaa.Q
end
section
/- Rows of rows, marked and held: laws.markIntSS by hand. -/
namespace Go.Proofs.Yteeghncofacmhaa.Q
open Go.RowKit Go.Proofs.YteeghncofacmhaaW.PrintWords Go.Proofs.YteeghncofacmhaaW.PrintLast Go.Proofs.YteeghncofacmhaaW.PrintMore
attribute [local go_sem] max2_int min2_int max_two min_two max_three min_three max_four min_four
set_option linter.unusedVariables false
set_option linter.unusedSimpArgs false
theorem RowsO.typed {W : World} {B : Nat} {v : Value} {ps : List (Value × List Int)} (h : RowsO W B v ps) (k : Nat) (hk : v.ownBlock = some k) : ∃ cells, W.heap[k]? = some (.cells cells 24 (0, 0)) := Kd.R_typed h k hk
theorem rdL4_at' {xs : List (List Int)} {i : Nat} (h : i < xs.length) : rd_L4 xs (i : Int) = xs[i] := by
  simp [rd_L4, List.getD_eq_getElem?_getD, List.getElem?_eq_getElem h]
end Go.Proofs.Yteeghncofacmhaa.Q
end
section
/- impl.neighbours by hand. -/
namespace Go.Proofs.Yteeghncofacmhaa.Q
open Go.RowKit Go.Proofs.YteeghncofacmhaaW.PrintWords Go.Proofs.YteeghncofacmhaaW.PrintLast Go.Proofs.YteeghncofacmhaaW.PrintMore
attribute [local go_sem] max2_int min2_int max_two min_two max_three min_three max_four min_four
set_option linter.unusedVariables false
set_option linter.unusedSimpArgs false
set_option maxHeartbeats 2000000 in
set_option maxRecDepth 100000 in
theorem next_closure (W : World) (xs : List S71) (ad : Addr) (c : Nat) (hC : Kd.C k71 W (some ad) xs.length xs) (i : Nat) (hi : i < xs.length) (b1 b2 : Nat) (h1 : W.cell? ⟨b1, 0, none⟩ = some (.slice (some ad) xs.length c)) (h2 : W.cell? ⟨b2, 0, none⟩ = some (.int .i64 (i : Int))) (x : Ch) (hl : (rd_T71 xs (i : Int)).f1.length ≤ 1000) :
    Calls Try.prog 119 #[.agg #[.int .i64 x.f0, .int .i64 x.f1], .pointer (some ⟨b1, 0, none⟩), .pointer (some ⟨b2, 0, none⟩)] W fun e w' => e = .returned (.bool ((rd_T71 xs (i : Int)).f1.contains x)) ∧ Below W.heap.size W w' := by
  obtain ⟨ad', A0, c0, A1, c1, A2, c2, ea, hx0, hx1, hx2, _, _, l1, g1, _, _⟩ := at_T71 hC (i : Int) (by omega) (by omega)
  cases ea
  obtain ⟨k, hk⟩ := containsCh_ev (rd_T71 xs (i : Int)).f1 x (by omega)
  have hq : ∀ W', Below W.heap.size W W' → Calls Try.prog 75 #[.slice A1 (rd_T71 xs (i : Int)).f1.length c1, .agg #[.int .i64 x.f0, .int .i64 x.f1]] W' fun e w' => e = .returned (.bool ((rd_T71 xs (i : Int)).f1.contains x)) ∧ Below W'.heap.size W' w' :=
    fun W' hb => impl_Chord_75.calls k _ _ _ _ _ _ W' (Kd.C_below g1 hb) l1 (hk k (Nat.le_refl _))
  have hb : Below W.heap.size W (W.alloc (.cells #[.int .i64 x.f0, .int .i64 x.f1] 64)) := below_alloc (Below.refl _ W) _
  rw [Int.toNat_natCast] at hx1
  have h1' := (hb.cell (World.block_lt_of_cell? W _ h1)).trans h1
  have h2' := (hb.cell (World.block_lt_of_cell? W _ h2)).trans h2
  have hx1' := (hb.cell (World.block_lt_of_cell? W _ hx1)).trans hx1
  have k0 : (W.alloc (.cells #[.int .i64 x.f0, .int .i64 x.f1] 64)).cell? ⟨W.heap.size, 0, none⟩ = some (.int .i64 x.f0) := new_cell _ _ _ 0
  have k1 : (W.alloc (.cells #[.int .i64 x.f0, .int .i64 x.f1] 64)).cell? ⟨W.heap.size, 1, none⟩ = some (.int .i64 x.f1) := new_cell _ _ _ 1
  generalize (rd_T71 xs (i : Int)).f1.contains x = r at hq ⊢
  generalize (rd_T71 xs (i : Int)).f1.length = m at hq hx1'
  have p101 := eq_true (show 0 ≤ (i : Int) by omega)
  have q101 := eq_true (show (i : Int) < (xs.length : Int) by omega)
  have q102 : decide ((i : Int) < (xs.length : Int)) = true := decide_eq_true (by omega)
  have hu := Try.underlying67
  have hu2 := Try.underlying64
  have hu3 := Try.underlying71
  have hqw := hq (W.alloc (.cells #[.int .i64 x.f0, .int .i64 x.f1] 64)).drew (below_drew hb)
  replace hqw := Aside0.mk hqw
  clear hk hq hC hx0 hx1 hx2 l1 g1 hl h1 h2
  go_enter Try.func119, Try.ntmps119
  have hbb := Aside0.mk hb
  clear hb
  go_wp2_with fail
  refine wp_region_still_tail 6 (by kernel_rfl) (by kernel_rfl) ?_
  simp only [List.take_succ_cons, List.take_zero, List.drop_succ_cons, List.drop_zero]
  rw [show ∀ w : World, ({ w with drawn := w.drawn + 1 } : World) = w.drew from fun _ => rfl]
  have h1d : (W.alloc (.cells #[.int .i64 x.f0, .int .i64 x.f1] 64)).drew.cell? ⟨b1, 0, none⟩ = some (.slice (some ad) xs.length c) := h1'
  have h2d : (W.alloc (.cells #[.int .i64 x.f0, .int .i64 x.f1] 64)).drew.cell? ⟨b2, 0, none⟩ = some (.int .i64 (i : Int)) := h2'
  have h3d : (W.alloc (.cells #[.int .i64 x.f0, .int .i64 x.f1] 64)).drew.cell? ⟨(ad.add (i * 3)).block, (ad.add (i * 3)).off + 1, none⟩ = some (.slice A1 m c1) := hx1'
  have h4d : (W.alloc (.cells #[.int .i64 x.f0, .int .i64 x.f1] 64)).drew.cell? ⟨W.heap.size, 0, none⟩ = some (.int .i64 x.f0) := k0
  have h5d : (W.alloc (.cells #[.int .i64 x.f0, .int .i64 x.f1] 64)).drew.cell? ⟨W.heap.size, 1, none⟩ = some (.int .i64 x.f1) := k1
  have hbd : Below W.heap.size W (W.alloc (.cells #[.int .i64 x.f0, .int .i64 x.f1] 64)).drew := below_drew hbb.out
  clear h1' h2' hx1' k0 k1 hbb
  generalize (W.alloc (.cells #[.int .i64 x.f0, .int .i64 x.f1] 64)).drew = V at hqw h1d h2d h3d h4d h5d hbd ⊢
  replace hbd := Aside0.mk hbd
  repeat still_step
  try refine wpStill_nil ?_
  go_wp2_with fail
  (with_reducible refine hqw.out.mono ?_)
  rintro e w' ⟨rfl, hb⟩
  replace hb := Aside0.mk hb
  go_wp2_with fail
  go_ret
  exact ⟨rfl, below_step hbd.out hb.out⟩
/-- Two regions share a chord of their edges. -/
def touch (xs : List S71) (i k : Nat) : Bool := (rd_T71 xs (i : Int)).f1.any fun x => (rd_T71 xs (k : Int)).f1.contains x
/-- All pairs i < k < n of which t holds, in order. -/
def pairRow (t : Nat → Nat → Bool) (i m : Nat) : List (List Int) := (List.range m).flatMap fun j => if t i (i + 1 + j) = true then [[(i : Int), ((i + 1 + j : Nat) : Int)]] else []
def pairsBy (t : Nat → Nat → Bool) (n m : Nat) : List (List Int) := (List.range m).flatMap fun i => pairRow t i (n - (i + 1))
theorem pairRow_succ (t : Nat → Nat → Bool) (i m : Nat) : pairRow t i (m + 1) = pairRow t i m ++ (if t i (i + 1 + m) = true then [[(i : Int), ((i + 1 + m : Nat) : Int)]] else []) := by
  unfold pairRow; rw [List.range_succ, List.flatMap_append]; simp
theorem pairsBy_succ (t : Nat → Nat → Bool) (n m : Nat) : pairsBy t n (m + 1) = pairsBy t n m ++ pairRow t m (n - (m + 1)) := by
  unfold pairsBy; rw [List.range_succ, List.flatMap_append]; simp
theorem pairRow_len (t : Nat → Nat → Bool) (i : Nat) : ∀ m, (pairRow t i m).length ≤ m
  | 0 => by simp [pairRow]
  | m + 1 => by
    rw [pairRow_succ, List.length_append]
    have := pairRow_len t i m
    split <;> simp <;> omega
theorem pairsBy_len (t : Nat → Nat → Bool) (n : Nat) : ∀ m, (pairsBy t n m).length ≤ m * n
  | 0 => by simp [pairsBy]
  | m + 1 => by
    rw [pairsBy_succ, List.length_append, Nat.add_mul]
    have := pairsBy_len t n m
    have := pairRow_len t m (n - (m + 1))
    omega
theorem RowsP.grown {W W1 : World} {B : Nat} {v : Value} {ps qs : List (Value × List Int)} (h : RowsP W B ps) (hO : RowsO W B v qs) (hg : W.grownBy W1 v.ownBlock) : RowsP W1 B ps :=
  ⟨fun p hp => Kd.R_mono (Kd.R_step (Kd.R_tight rfl (h.1 p hp)) (fun k ho hlt => hg.block k hlt (fun he => by
    obtain ⟨c1, h1⟩ := hO.typed k he.symm
    obtain ⟨c2, h2⟩ := Kd.R_typed (h.1 p hp) k ho.symm
    rw [h1] at h2
    injection h2 with h2
    injection h2 with _ h2
    exact absurd h2 (by decide)))) (fun _ _ => trivial), h.2⟩
theorem RowsO.ne {W : World} {B k t : Nat} {v : Value} {ps : List (Value × List Int)} {cells : Array Value} (h : RowsO W B v ps) (hk : W.heap[k]? = some (.cells cells t (0, 0))) (ht : t ≠ 24) : some k ≠ v.ownBlock := fun he => by
  obtain ⟨c1, h1⟩ := h.typed k he.symm
  rw [h1] at hk
  injection hk with hk
  injection hk with _ hk
  exact ht hk.symm
theorem pair_R (W : World) (a b : Int) : (Kd.int .i64).R 3 (W.alloc (.cells #[.int .i64 a, .int .i64 b] 3)) W.heap.size (fun _ => True) (.slice (some ⟨W.heap.size, 0, none⟩) 2 2) [a, b] :=
  ⟨fun _ _ => trivial, [.int .i64 a, .int .i64 b], World.ownsRow_lit W #[.int .i64 a, .int .i64 b] 2 (Nat.le_refl _) (by decide) rfl, Reps.one rfl (Reps.one rfl (Reps.none _ _))⟩
def kOf (v : Value) (w : World) : Nat := match v with | .pointer (some a) => (intOf ((w.cell? a).getD undef)).toNat | _ => 0
theorem kOf_at {w : World} {a : Addr} {k : Nat} (h : w.cell? a = some (.int .i64 (k : Int))) : kOf (.pointer (some a)) w = k := by simp [kOf, h, intOf]
def impl_neighbours.f (xs : List S71) : List (List Int) := pairsBy (touch xs) xs.length xs.length
set_option maxHeartbeats 8000000 in
set_option maxRecDepth 100000 in
theorem neighbours_calls (A : Option Addr) (c : Nat) (xs : List S71) (w : World) (hC : Kd.C k71 w A xs.length xs) (hc : xs.length ≤ c) (hn : xs.length ≤ 1000) (hs : ∀ x ∈ xs, x.f1.length ≤ 1000) :
    Calls Try.prog 81 #[.slice A xs.length c] w fun e w' => ∃ v0_ : Value, e = .returned v0_ ∧ Kd.S (Kd.slice 3 (Kd.int .i64)) 24 w' w.heap.size (fun _ => True) v0_ (impl_neighbours.f xs) ∧ Below w.heap.size w w' := by
  have hrs : ∀ i : Nat, i < xs.length → (rd_T71 xs (i : Int)).f1.length ≤ 1000 := fun i hi => by
    have : rd_T71 xs (i : Int) = xs[i] := by simp [rd_T71, List.getD_eq_getElem?_getD, List.getElem?_eq_getElem hi]
    rw [this]; exact hs _ (List.getElem_mem hi)
  have HC := Aside0.mk hC
  -- the call of ContainsFunc
  have hcall : ∀ (W : World) (i k : Nat) (A1 : Option Addr) (c1 b1 b2 : Nat), i < xs.length → k < xs.length → Below w.heap.size w W → Kd.C k64 W A1 (rd_T71 xs (i : Int)).f1.length (rd_T71 xs (i : Int)).f1 → W.cell? ⟨b1, 0, none⟩ = some (.slice A xs.length c) → W.cell? ⟨b2, 0, none⟩ = some (.int .i64 (k : Int)) →
      Calls Try.prog 114 #[.slice A1 (rd_T71 xs (i : Int)).f1.length c1, .func (.func 119) #[] #[.pointer (some ⟨b1, 0, none⟩), .pointer (some ⟨b2, 0, none⟩)]] W fun e w' => e = .returned (.bool (touch xs i k)) ∧ Below W.heap.size W w' := by
    intro W i k A1 c1 b1 b2 hi hk hW hC1 hb1 hb2
    obtain ⟨_, _, hR⟩ := id hC
    obtain ⟨ad, ea, _⟩ := hR (by omega)
    cases ea
    exact any_ch W A1 c1 _ hC1 119 _ (enters_of Try.func119 (by kernel_rfl) rfl) (fun x => (rd_T71 xs (k : Int)).f1.contains x) (fun W' x hx hb => next_closure W' xs ad c (Kd.C_below (Kd.C_below hC hW) hb) k hk b1 b2 ((hb.cell (World.block_lt_of_cell? _ _ hb1)).trans hb1) ((hb.cell (World.block_lt_of_cell? _ _ hb2)).trans hb2) x (hrs k hk))
  replace hcall := Aside0.mk hcall
  have HRS := Aside0.mk hrs
  unfold impl_neighbours.f
  clear hC hs hrs
  have hu := Try.underlying67
  have hu3 := Try.underlying71
  have k0 : (w.alloc (.cells #[.slice A xs.length c] 67)).cell? ⟨w.heap.size, 0, none⟩ = some (.slice A xs.length c) := new_cell _ _ _ 0
  have B0 : Below w.heap.size w (w.alloc (.cells #[.slice A xs.length c] 67)) := below_alloc (Below.refl _ w) _
  have hg0 : w.heap.size < (w.alloc (.cells #[.slice A xs.length c] 67)).heap.size := by simp
  replace k0 := Aside0.mk k0
  replace B0 := Aside0.mk B0
  replace hg0 := Aside0.mk hg0
  go_enter Try.func81, Try.ntmps81
  go_wp2_with fail
  replace k0 := k0.out
  replace B0 := B0.out
  replace hg0 := hg0.out
  have hsz0 : (w.alloc (.cells #[.slice A xs.length c] 67)).heap.size = w.heap.size + 1 := by simp
  generalize hgg : w.heap.size = g0 at k0 hg0 hsz0 ⊢
  generalize (w.alloc (.cells #[.slice A xs.length c] 67)) = wb at k0 B0 hg0 hsz0 ⊢
  have HCb := Aside0.mk (Kd.C_below HC.out B0)
  have K0 := Aside0.mk k0
  have HB0 := Aside0.mk B0
  have HG0 := Aside0.mk hg0
  have HGG := Aside0.mk hgg
  clear k0 B0 hg0 hgg
  have O0 : Aside0 (RowsO (wb.alloc (.cells #[] 24)) wb.heap.size (.slice (some ⟨g0 + 1, 0, none⟩) 0 0) []) := ⟨by rw [← hsz0]; exact none_row wb wb.heap.size 24 (Nat.le_refl _)⟩
  clear hsz0
  have B1 : Aside0 (Below wb.heap.size wb (wb.alloc (.cells #[] 24))) := ⟨below_alloc (Below.refl _ _) _⟩
  go_loopw [3, 10] (fun v3 v10 wr => ∃ (i : Nat) (ps : List (Value × List Int)), v10 = .int .i64 (i : Int) ∧ Aside0 (i ≤ xs.length) ∧ Aside0 (ps.map Prod.snd = pairsBy (touch xs) xs.length i) ∧ Aside0 (RowsP wr wb.heap.size ps) ∧ Aside0 (RowsO wr wb.heap.size v3 ps) ∧ Aside0 (Below wb.heap.size wb wr)) (fun _ v10 _ => xs.length - (intOf v10).toNat)
  case atStart => exact ⟨0, [], rfl, ⟨Nat.zero_le _⟩, ⟨rfl⟩, ⟨RowsP.nil _ _⟩, O0, B1⟩
  case round =>
    clear O0 B1
    obtain ⟨i, ps, rfl, hi, hps, HP, HO, HB⟩ := hrel
    replace hi := hi.out
    by_cases hlt : i < xs.length
    · have hl : decide ((i : Int) < (xs.length : Int)) = true := decide_eq_true (by omega)
      obtain ⟨ad, A0, c0, A1, c1, A2, c2, ea, hx0, hx1, hx2, _, _, l1, g1, _, _⟩ := at_T71 HCb.out (i : Int) (by omega) (by omega)
      cases ea
      replace hx0 := (HB.out.cell (World.block_lt_of_cell? wb _ hx0)).trans hx0
      replace hx1 := (HB.out.cell (World.block_lt_of_cell? wb _ hx1)).trans hx1
      replace hx2 := (HB.out.cell (World.block_lt_of_cell? wb _ hx2)).trans hx2
      rw [Int.toNat_natCast] at hx0 hx1 hx2
      have g1 := Aside0.mk g1
      have hrl := HRS.out i hlt
      generalize hrr : (rd_T71 xs (i : Int)).f0.length = m0 at hx0
      generalize hr2 : (rd_T71 xs (i : Int)).f2.length = m2 at hx2
      clear hrr hr2 hrl
      generalize hm1 : (rd_T71 xs (i : Int)).f1.length = m1 at hx1
      replace hm1 := Aside0.mk hm1
      go_wp2_with fail
      have c5 : (wr.alloc (.cells #[.slice A0 m0 c0, .slice A1 m1 c1, .slice A2 m2 c2] 71)).cell? ⟨wr.heap.size, 1, none⟩ = some (.slice A1 m1 c1) := new_cell _ _ _ 1
      have t5 : (wr.alloc (.cells #[.slice A0 m0 c0, .slice A1 m1 c1, .slice A2 m2 c2] 71)).heap[wr.heap.size]? = some (.cells #[.slice A0 m0 c0, .slice A1 m1 c1, .slice A2 m2 c2] 71 (0, 0)) := new_block _ _
      have b5 : Below wr.heap.size wr (wr.alloc (.cells #[.slice A0 m0 c0, .slice A1 m1 c1, .slice A2 m2 c2] 71)) := below_alloc (Below.refl _ _) _
      have z5 : (wr.alloc (.cells #[.slice A0 m0 c0, .slice A1 m1 c1, .slice A2 m2 c2] 71)).heap.size = wr.heap.size + 1 := by simp
      have g5l : wb.heap.size ≤ wr.heap.size := HB.out.size
      generalize (wr.alloc (.cells #[.slice A0 m0 c0, .slice A1 m1 c1, .slice A2 m2 c2] 71)) = w5 at c5 t5 b5 z5 ⊢
      have HP5 := HP.out.below b5
      have HO5 := HO.out.below b5
      have HB5 := below_then HB.out g5l b5
      clear hx0 hx1 hx2 HP HO HB
      generalize hg5 : wr.heap.size = g5 at c5 t5 b5 z5 g5l ⊢
      clear hg5 b5
      have k6 : (w5.alloc (.cells #[.int .i64 ((i : Int) + 1)] 3)).cell? ⟨g5 + 1, 0, none⟩ = some (.int .i64 ((i + 1 + 0 : Nat) : Int)) := by
        rw [← z5]
        have : ((i + 1 + 0 : Nat) : Int) = (i : Int) + 1 := by omega
        rw [this]
        exact new_cell _ _ _ 0
      have t6 : (w5.alloc (.cells #[.int .i64 ((i : Int) + 1)] 3)).heap[g5 + 1]? = some (.cells #[.int .i64 ((i + 1 + 0 : Nat) : Int)] 3 (0, 0)) := by
        rw [← z5]
        have : ((i + 1 + 0 : Nat) : Int) = (i : Int) + 1 := by omega
        rw [this]
        exact new_block _ _
      have b6 : Below w5.heap.size w5 (w5.alloc (.cells #[.int .i64 ((i : Int) + 1)] 3)) := below_alloc (Below.refl _ _) _
      have g6l : w5.heap.size ≤ g5 + 1 := by omega
      generalize (w5.alloc (.cells #[.int .i64 ((i : Int) + 1)] 3)) = w6 at k6 t6 b6 ⊢
      have P6 := Aside0.mk (HP5.below b6)
      have O6 := Aside0.mk (HO5.below b6)
      have B6 := Aside0.mk (below_then HB5 (by omega) b6)
      have C6 := Aside0.mk ((b6.cell (World.block_lt_of_cell? w5 _ c5)).trans c5)
      have T5 := Aside0.mk ((b6.block g5 (by omega)).trans t5)
      have K6 := Aside0.mk k6
      have T6 := Aside0.mk t6
      have hapart : Aside0 (∀ p ∈ ps, ∀ k, p.1.ownBlock = some k → k ≠ g5 + 1) := ⟨fun p hp k hk => by have := HP5.lt hp hk; omega⟩
      clear c5 t5 z5 HP5 HO5 HB5 k6 t6 b6 g6l
      generalize g5 + 1 = g6 at K6 T6 hapart ⊢
      clear g5l
      go_loopw [3, 6] (fun v3 v6 wi => ∃ (j : Nat) (qs : List (Value × List Int)) (b6 : Nat), v6 = .pointer (some ⟨b6, 0, none⟩) ∧ Aside0 (j ≤ xs.length - (i + 1)) ∧ Aside0 (qs.map Prod.snd = pairsBy (touch xs) xs.length i ++ pairRow (touch xs) i j) ∧ Aside0 (RowsP wi wb.heap.size qs) ∧ Aside0 (RowsO wi wb.heap.size v3 qs) ∧ Aside0 (Below wb.heap.size wb wi) ∧ Aside0 (wi.heap[g5]? = some (.cells #[.slice A0 m0 c0, .slice A1 m1 c1, .slice A2 m2 c2] 71 (0, 0))) ∧ Aside0 (wi.heap[b6]? = some (.cells #[.int .i64 ((i + 1 + j : Nat) : Int)] 3 (0, 0)))) (fun _ v6 wi => xs.length - kOf v6 wi)
      case atStart => exact ⟨0, ps, g6, rfl, ⟨Nat.zero_le _⟩, ⟨by rw [hps.out]; simp [pairRow]⟩, P6, O6, B6, T5, T6⟩
      case round =>
        clear P6 O6 B6 T5 T6 C6 K6 hapart hps
        obtain ⟨j, qs, b6, rfl, hj, hqs, HP, HO, HB, T5, T6⟩ := hrel
        obtain ⟨wi, rfl⟩ : ∃ wi : World, wi = wr := ⟨_, rfl⟩
        have hj := hj.out
        have hc6 : wi.cell? ⟨b6, 0, none⟩ = some (.int .i64 ((i + 1 + j : Nat) : Int)) := blk_cell T6.out 0
        have hc5 : wi.cell? ⟨g5, 1, none⟩ = some (.slice A1 m1 c1) := blk_cell T5.out 1
        have hc0 : wi.cell? ⟨g0, 0, none⟩ = some (.slice (some ad) xs.length c) := (HB.out.cell HG0.out).trans K0.out
        have hkm := Aside0.mk (kOf_at hc6)
        by_cases hlt2 : i + 1 + j < xs.length
        · have hl2 : decide (((i + 1 + j : Nat) : Int) < (xs.length : Int)) = true := decide_eq_true (by omega)
          have hcl := hcall.out wi i (i + 1 + j) A1 c1 g0 b6 hlt hlt2 (below_step HB0.out HB.out) (by have := Kd.C_below g1.out HB.out; exact this) hc0 hc6
          rw [hm1.out] at hcl
          replace hcl := Aside0.mk hcl
          have hwk : wrap64 (((i + 1 + j : Nat) : Int) + 1) = ((i + 1 + (j + 1) : Nat) : Int) := by rw [w64s (by omega) (by omega)]; omega
          generalize hkk : ((i + 1 + j : Nat) : Int) = kk at hc6 hl2 hwk
          replace hwk := Aside0.mk hwk
          replace hkk := Aside0.mk hkk
          go_wp2_with fail
          (with_reducible refine hcl.out.mono ?_)
          rintro e w2 ⟨rfl, hb2⟩
          have hgl : wb.heap.size ≤ wi.heap.size := HB.out.size
          have HP2 := Aside0.mk (HP.out.below hb2)
          have HO2 := Aside0.mk (HO.out.below hb2)
          have HB2 := Aside0.mk (below_then HB.out hgl hb2)
          have T52 := Aside0.mk ((hb2.block g5 (Array.getElem?_eq_some_iff.1 T5.out).1).trans T5.out)
          have T62 := Aside0.mk ((hb2.block b6 (Array.getElem?_eq_some_iff.1 T6.out).1).trans T6.out)
          clear HP HO HB T5 T6 hc6 hc5 hc0 hb2 hgl hcl
          rw [hkk.out] at T62
          cases htc : touch xs i (i + 1 + j) with
          | false =>
            have hq1 : Aside0 (qs.map Prod.snd = pairsBy (touch xs) xs.length i ++ pairRow (touch xs) i (j + 1)) := ⟨by rw [hqs.out, pairRow_succ, htc]; simp⟩
            replace htc := Aside0.mk htc
            have hc62 : w2.cell? ⟨b6, 0, none⟩ = some (.int .i64 kk) := blk_cell T62.out 0
            go_wp2_with fail
            rw [hwk.out]
            refine ⟨⟨j + 1, qs, w2.heap.size, rfl, ⟨by omega⟩, hq1, ⟨HP2.out.below (below_alloc (Below.refl _ _) _)⟩, ⟨HO2.out.below (below_alloc (Below.refl _ _) _)⟩, ⟨below_then HB2.out HB2.out.size (below_alloc (Below.refl _ _) _)⟩, ⟨((below_alloc (Below.refl _ w2) _).block g5 (Array.getElem?_eq_some_iff.1 T52.out).1).trans T52.out⟩, ⟨new_block _ _⟩⟩, ?_⟩
            rw [hkm.out, kOf_at (k := i + 1 + (j + 1)) (new_cell w2 _ _ 0)]
            omega
          | true =>
            have hq1 : Aside0 ((qs ++ [((.slice (some ⟨w2.heap.size, 0, none⟩) 2 2 : Value), [(i : Int), kk])]).map Prod.snd = pairsBy (touch xs) xs.length i ++ pairRow (touch xs) i (j + 1)) := ⟨by rw [List.map_append, hqs.out, pairRow_succ, htc, if_pos rfl, ← hkk.out, List.append_assoc]; rfl⟩
            have hql : qs.length ≤ 2000000 := by
              have h1 := congrArg List.length hqs.out
              rw [List.length_map, List.length_append] at h1
              have h2 := pairsBy_len (touch xs) xs.length i
              have h3 := pairRow_len (touch xs) i j
              have h4 : i * xs.length ≤ 1000 * 1000 := Nat.mul_le_mul (by omega) (by omega)
              omega
            replace htc := Aside0.mk htc
            have hc62 : w2.cell? ⟨b6, 0, none⟩ = some (.int .i64 kk) := blk_cell T62.out 0
            have bP : Below w2.heap.size w2 (w2.alloc (.cells #[.int .i64 (i : Int), .int .i64 kk] 3)) := below_alloc (Below.refl _ _) _
            have HO3 := Aside0.mk (HO2.out.below bP)
            have HB3 := Aside0.mk (below_then HB2.out HB2.out.size bP)
            have HP3 : Aside0 (RowsP (w2.alloc (.cells #[.int .i64 (i : Int), .int .i64 kk] 3)) wb.heap.size (qs ++ [(.slice (some ⟨w2.heap.size, 0, none⟩) 2 2, [(i : Int), kk])])) := ⟨by
              have h1 := (HP2.out.below bP).cons (u := .slice (some ⟨w2.heap.size, 0, none⟩) 2 2) (Kd.R_lower (pair_R w2 (i : Int) kk) HB2.out.size) (fun p hp k hk he => by
                have h2 := HP2.out.lt hp he
                have h3 : w2.heap.size = k := by simpa [Value.ownBlock] using hk
                omega)
              exact h1.perm (List.perm_append_comm (l₁ := [_]))⟩
            have T53 := Aside0.mk ((bP.block g5 (Array.getElem?_eq_some_iff.1 T52.out).1).trans T52.out)
            have hne5 := Aside0.mk (HO3.out.ne T53.out (by decide))
            have T63 := Aside0.mk ((bP.block b6 (Array.getElem?_eq_some_iff.1 T62.out).1).trans T62.out)
            have hne6 := Aside0.mk (HO3.out.ne T63.out (by decide))
            clear bP
            go_wp2_with (((with_reducible refine gate_builtin (b := .append) (xs := #[.tmp 27, .tmp 31]) rfl ?_); at_builtin; refine Kd.R_append (Kd.raw 1) (w0 := wb) wb.heap.size rfl (.tmp 27) (.tmp 31) 37 24 (.slice none 0 0) 24 rfl Try.underlying37 info24 rfl (by decide) (by omega) u3 (qs.map fun p : Value × List Int => [p.1]) [.slice (some ⟨w2.heap.size, 0, none⟩) 2 2] [.slice (some ⟨w2.heap.size, 0, none⟩) 2 2] (fun _ => True) (fun _ => False) rfl (by show Value.slice (some ⟨w2.heap.size + 1, 0, none⟩) 1 1 = _; simp) ⟨rfl, rfl, fun u hu => by rw [List.mem_singleton.1 hu]; rfl⟩ (fun _ hk => hk.elim) (fun _ _ => trivial) HO3.out HB3.out HB3.out.size ?aL ?_; (case aL => simp; omega); intro v5 w5 ho_ hb_ hg_ ha_; have HO5 := Aside0.mk ho_; have HB5 := Aside0.mk hb_; have hc63 : w5.cell? ⟨b6, 0, none⟩ = some (.int .i64 kk) := blk_cell ((hg_.block b6 (Array.getElem?_eq_some_iff.1 T63.out).1 hne6.out).trans T63.out) 0; have HG5 := Aside0.mk hg_; clear ho_ hb_ hg_ ha_))
            rw [hwk.out]
            have l5 : g5 < w5.heap.size := Nat.lt_of_lt_of_le (Array.getElem?_eq_some_iff.1 T53.out).1 HG5.out.size
            refine ⟨⟨j + 1, qs ++ [(.slice (some ⟨w2.heap.size, 0, none⟩) 2 2, [(i : Int), kk])], w5.heap.size, rfl, ⟨by omega⟩, hq1, ⟨(HP3.out.grown HO3.out HG5.out).below (below_alloc (Below.refl _ _) _)⟩, ⟨RowsO.below (ps := qs ++ [(.slice (some ⟨w2.heap.size, 0, none⟩) 2 2, [(i : Int), kk])]) (by unfold RowsO; rw [List.map_append]; exact HO5.out) (below_alloc (Below.refl _ _) _)⟩, ⟨below_then HB5.out HB5.out.size (below_alloc (Below.refl _ _) _)⟩, ⟨((below_alloc (Below.refl _ w5) _).block g5 l5).trans ((HG5.out.block g5 (Array.getElem?_eq_some_iff.1 T53.out).1 hne5.out).trans T53.out)⟩, ⟨new_block _ _⟩⟩, ?_⟩
            rw [hkm.out, kOf_at (k := i + 1 + (j + 1)) (new_cell w5 _ _ 0)]
            omega
        · have hl2 : decide (((i + 1 + j : Nat) : Int) < (xs.length : Int)) = false := decide_eq_false (by omega)
          have hq1 : Aside0 (qs.map Prod.snd = pairsBy (touch xs) xs.length (i + 1)) := ⟨by rw [hqs.out, pairsBy_succ, show xs.length - (i + 1) = j by omega]⟩
          generalize ((i + 1 + j : Nat) : Int) = kk at hc6 hl2
          clear hc5
          go_wp2_with fail
          go_roundw
          case rel => exact ⟨i + 1, qs, by go_num, ⟨by omega⟩, hq1, HP, HO, HB⟩
          case measure => simp [intOf]; omega
    · have hl : decide ((i : Int) < (xs.length : Int)) = false := decide_eq_false (by omega)
      obtain rfl : i = xs.length := by omega
      have hS := RowsO.S HP.out HO.out
      rw [hps.out] at hS
      have hS2 := Aside0.mk (Kd.S_lower hS HB0.out.size)
      have HBf := Aside0.mk (below_step HB0.out HB.out)
      clear hS HP HO hps
      go_wp2_with fail
      go_ret
      exact ⟨_, rfl, hS2.out, HBf.out⟩
end Go.Proofs.Yteeghncofacmhaa.Q
end
section
/- spec.reNext by hand. -/
namespace Go.Proofs.Yteeghncofacmhaa.Q
open Go.RowKit Go.Proofs.YteeghncofacmhaaW.PrintWords Go.Proofs.YteeghncofacmhaaW.PrintLast Go.Proofs.YteeghncofacmhaaW.PrintMore
attribute [local go_sem] max2_int min2_int max_two min_two max_three min_three max_four min_four
set_option linter.unusedVariables false
set_option linter.unusedSimpArgs false
/-- How many points of the second list are in the first. -/
def common (F G : List Int) : Nat := G.countP (fun p => F.contains p)
def cm (F : List (List Int)) (i k : Nat) : Bool := decide (common (rd_L4 F (i : Int)) (rd_L4 F (k : Int)) = 2)
def reNextOf (F : List (List Int)) : List (List Int) := pairsBy (cm F) F.length F.length
set_option maxHeartbeats 8000000 in
set_option maxRecDepth 100000 in
theorem reNext_calls (a0 : Int) (A : Option Addr) (c : Nat) (l : List S64) (F : List (List Int)) (w : World) (hr : Kd.C k64 w A l.length l) (hc : l.length ≤ c) (hF : spec_reList.f a0 l = some F) (hn : F.length ≤ 1000) (hs : ∀ x ∈ F, x.length ≤ 1000) :
    Calls Try.prog 80 #[.int .i64 a0, .slice A l.length c] w fun e w' => ∃ v0_ : Value, e = .returned v0_ ∧ Kd.S (Kd.slice 3 (Kd.int .i64)) 24 w' w.heap.size (fun _ => True) v0_ (reNextOf F) ∧ Below w.heap.size w w' := by
  have hrs : ∀ i : Nat, i < F.length → (rd_L4 F (i : Int)).length ≤ 1000 := fun i hi => by
    rw [rdL4_at' hi]; exact hs _ (List.getElem_mem hi)
  have h57 := spec_reList.calls a0 A c l F w hr hc hF
  have HRS := Aside0.mk hrs
  replace h57 := Aside0.mk h57
  unfold reNextOf
  clear hs hrs hr hc hF
  have hu := Try.underlying37
  go_enter Try.func80, Try.ntmps80
  go_wp2_with fail
  (with_reducible refine h57.out.mono ?_)
  rintro e w1 ⟨v0, rfl, hS1, hb1⟩
  obtain ⟨A5, c5, rfl, hl5, hC5⟩ := Kd.S_reads hS1
  have HC := Aside0.mk hC5
  have HB1 := Aside0.mk hb1
  clear hS1 hC5 hb1 h57
  go_wp2_with fail
  go_loopw [6, 18] (fun v6 v18 wr => ∃ (i : Nat) (ps : List (Value × List Int)), v18 = .int .i64 (i : Int) ∧ Aside0 (i ≤ F.length) ∧ Aside0 (ps.map Prod.snd = pairsBy (cm F) F.length i) ∧ Aside0 (RowsP wr w1.heap.size ps) ∧ Aside0 (RowsO wr w1.heap.size v6 ps) ∧ Aside0 (Below w1.heap.size w1 wr)) (fun _ v18 _ => F.length - (intOf v18).toNat)
  case atStart => exact ⟨0, [], rfl, ⟨Nat.zero_le _⟩, ⟨rfl⟩, ⟨RowsP.nil _ _⟩, ⟨Kd.R_nil _ _ _ _ _⟩, ⟨Below.refl _ _⟩⟩
  case round =>
    obtain ⟨i, ps, rfl, hi, hps, HP, HO, HB⟩ := hrel
    replace hi := hi.out
    by_cases hlt : i < F.length
    · have hl : decide ((i : Int) < (F.length : Int)) = true := decide_eq_true (by omega)
      obtain ⟨ad, A0, c0, ea, hx0, hl0, hC0⟩ := at_L4 HC.out (i : Int) (by omega) (by omega)
      cases ea
      replace hx0 := (HB.out.cell (World.block_lt_of_cell? w1 _ hx0)).trans hx0
      rw [Int.toNat_natCast] at hx0
      have HC0 := Aside0.mk hC0
      have HL0 := Aside0.mk hl0
      have hri := HRS.out i hlt
      generalize hFi : rd_L4 F (i : Int) = Fi at hx0 HC0 HL0 hri
      replace hFi := Aside0.mk hFi
      clear hC0 hl0
      replace hri := Aside0.mk hri
      go_wp2_with fail
      clear hx0
      obtain ⟨wo, rfl⟩ : ∃ wo : World, wo = wr := ⟨_, rfl⟩
      go_loopw [6, 9] (fun v6 v9 wi => ∃ (j : Nat) (qs : List (Value × List Int)), v9 = .int .i64 ((i + 1 + j : Nat) : Int) ∧ Aside0 (j ≤ F.length - (i + 1)) ∧ Aside0 (qs.map Prod.snd = pairsBy (cm F) F.length i ++ pairRow (cm F) i j) ∧ Aside0 (RowsP wi w1.heap.size qs) ∧ Aside0 (RowsO wi w1.heap.size v6 qs) ∧ Aside0 (Below w1.heap.size w1 wi)) (fun _ v9 _ => F.length - (intOf v9).toNat)
      case atStart => exact ⟨0, ps, by go_num, ⟨Nat.zero_le _⟩, ⟨by rw [hps.out]; simp [pairRow]⟩, HP, HO, HB⟩
      case round =>
        clear HP HO HB hps
        obtain ⟨j, qs, rfl, hj, hqs, HP, HO, HB⟩ := hrel
        obtain ⟨wi, rfl⟩ : ∃ wi : World, wi = wr := ⟨_, rfl⟩
        have hj := hj.out
        by_cases hlt2 : i + 1 + j < F.length
        · have hl2 : decide (((i + 1 + j : Nat) : Int) < (F.length : Int)) = true := decide_eq_true (by omega)
          obtain ⟨ad', A1, c1, ea, hx1, hl1, hC1⟩ := at_L4 HC.out ((i + 1 + j : Nat) : Int) (by omega) (by omega)
          cases ea
          replace hx1 := (HB.out.cell (World.block_lt_of_cell? w1 _ hx1)).trans hx1
          rw [Int.toNat_natCast] at hx1
          have HC1 := Aside0.mk (Kd.C_below hC1 HB.out)
          have HCi := Aside0.mk (Kd.C_below HC0.out HB.out)
          have hrk := HRS.out (i + 1 + j) hlt2
          have hwk : wrap64 (((i + 1 + j : Nat) : Int) + 1) = ((i + 1 + (j + 1) : Nat) : Int) := by rw [w64s (by omega) (by omega)]; omega
          generalize hFk : rd_L4 F ((i + 1 + j : Nat) : Int) = Fk at hx1 HC1 hrk
          replace hFk := Aside0.mk hFk
          clear hl1 hC1
          have hkn : Aside0 (i + 1 + j < F.length) := ⟨hlt2⟩
          have hidx : (i + 1 + j : Nat) = ((i + 1 + j : Nat) : Int).toNat := by omega
          have p1 : (0 : Int) ≤ ((i + 1 + j : Nat) : Int) := by omega
          generalize hkk : ((i + 1 + j : Nat) : Int) = kk at hl2 hwk hidx p1
          rw [hidx] at hx1
          have hk1 : Aside0 (kk + 1 = ((i + 1 + (j + 1) : Nat) : Int)) := ⟨by omega⟩
          clear hwk
          replace hkk := Aside0.mk hkk
          go_wp2_with fail
          clear hx1
          go_loopw [10, 36] (fun v10 v36 we => ∃ (q : Nat), v36 = .int .i64 (q : Int) ∧ v10 = .int .i64 ((common Fi (Fk.take q) : Nat) : Int) ∧ Aside0 (q ≤ Fk.length) ∧ Aside0 (Below wi.heap.size wi we)) (fun _ v36 _ => Fk.length - (intOf v36).toNat)
          case atStart => exact ⟨0, rfl, rfl, ⟨Nat.zero_le _⟩, ⟨Below.refl _ _⟩⟩
          case round =>
            obtain ⟨q, rfl, rfl, hq, HE⟩ := hrel
            obtain ⟨we, rfl⟩ : ∃ we : World, we = wr := ⟨_, rfl⟩
            replace hq := hq.out
            have hcl : common Fi (Fk.take q) ≤ 1000 := by
              have := List.countP_le_length (p := fun p => Fi.contains p) (l := Fk.take q)
              rw [List.length_take] at this
              unfold common
              omega
            by_cases hlt3 : q < Fk.length
            · have hl3 : decide ((q : Int) < (Fk.length : Int)) = true := decide_eq_true (by omega)
              obtain ⟨ad2, ea, hx2⟩ := Kd.at_int (Kd.C_below HC1.out HE.out) (q : Int) (by omega) (by omega)
              cases ea
              rw [Int.toNat_natCast, rd_at hlt3] at hx2
              have hct : common Fi (Fk.take (q + 1)) = common Fi (Fk.take q) + (if Fi.contains Fk[q] = true then 1 else 0) := by
                unfold common
                rw [List.take_succ_eq_append_getElem hlt3, List.countP_append]
                simp [List.countP_cons]
              have hcall := spec_l1Has.calls (Fi.length + 1) A0 c0 Fi Fk[q] _ we (Kd.C_below HCi.out HE.out) HL0.out (l1Has_ev Fi Fk[q] (by have := hri.out; omega))
              generalize Fk[q] = pq at hx2 hct hcall
              have hwc : wrap64 (((common Fi (Fk.take q) : Nat) : Int) + 1) = ((common Fi (Fk.take q) + 1 : Nat) : Int) := by rw [w64s (by omega) (by omega)]; omega
              generalize common Fi (Fk.take q) = cq at hct hwc hcl
              replace hct := Aside0.mk hct
              replace hwc := Aside0.mk hwc
              cases hb : Fi.contains pq with
              | true =>
                rw [hb] at hcall
                have hct1 : Aside0 (common Fi (Fk.take (q + 1)) = cq + 1) := ⟨by rw [hct.out, hb, if_pos rfl]⟩
                replace hcall := Aside0.mk hcall
                clear hct
                replace hb := Aside0.mk hb
                go_wp2_with (go_at_call 69; refine hcall.out.mono ?_; rintro e w' ⟨rfl, ⟨nd, rfl⟩⟩)
                go_roundw
                case rel => exact ⟨q + 1, by go_num, by rw [hct1.out]; go_num, ⟨by omega⟩, ⟨pw_below_drewN HE.out _⟩⟩
                case measure => simp [intOf]; omega
              | false =>
                rw [hb] at hcall
                have hct1 : Aside0 (common Fi (Fk.take (q + 1)) = cq) := ⟨by rw [hct.out, hb]; simp⟩
                replace hcall := Aside0.mk hcall
                clear hct
                replace hb := Aside0.mk hb
                go_wp2_with (go_at_call 69; refine hcall.out.mono ?_; rintro e w' ⟨rfl, ⟨nd, rfl⟩⟩)
                go_roundw
                case rel => exact ⟨q + 1, by go_num, by rw [hct1.out], ⟨by omega⟩, ⟨pw_below_drewN HE.out _⟩⟩
                case measure => simp [intOf]; omega
            · have hl3 : decide ((q : Int) < (Fk.length : Int)) = false := decide_eq_false (by omega)
              obtain rfl : q = Fk.length := by omega
              have hcm : common Fi (Fk.take Fk.length) = common Fi Fk := by rw [List.take_length]
              rw [hcm] at hcl
              rw [hcm]
              have htc : cm F i (i + 1 + j) = decide (common Fi Fk = 2) := by unfold cm; rw [hFi.out, ← hFk.out, hkk.out]
              generalize common Fi Fk = cq at htc hcl
              have HP2 := Aside0.mk (HP.out.below HE.out)
              have HO2 := Aside0.mk (HO.out.below HE.out)
              have HB2 := Aside0.mk (below_then HB.out HB.out.size HE.out)
              by_cases h2 : cq = 2
              · have hb2 : ((cq : Int) == 2) = true := by simp; omega
                have hq1 : Aside0 ((qs ++ [((.slice (some ⟨we.heap.size, 0, none⟩) 2 2 : Value), [(i : Int), kk])]).map Prod.snd = pairsBy (cm F) F.length i ++ pairRow (cm F) i (j + 1)) := ⟨by rw [List.map_append, hqs.out, pairRow_succ, htc, if_pos (decide_eq_true h2), ← hkk.out, List.append_assoc]; rfl⟩
                have hql : qs.length ≤ 2000000 := by
                  have h1 := congrArg List.length hqs.out
                  rw [List.length_map, List.length_append] at h1
                  have h2 := pairsBy_len (cm F) F.length i
                  have h3 := pairRow_len (cm F) i j
                  have h4 : i * F.length ≤ 1000 * 1000 := Nat.mul_le_mul (by omega) (by omega)
                  omega
                replace htc := Aside0.mk htc
                have bP : Below we.heap.size we (we.alloc (.cells #[.int .i64 (i : Int), .int .i64 kk] 3)) := below_alloc (Below.refl _ _) _
                have HO3 := Aside0.mk (HO2.out.below bP)
                have HB3 := Aside0.mk (below_then HB2.out HB2.out.size bP)
                have HP3 : Aside0 (RowsP (we.alloc (.cells #[.int .i64 (i : Int), .int .i64 kk] 3)) w1.heap.size (qs ++ [(.slice (some ⟨we.heap.size, 0, none⟩) 2 2, [(i : Int), kk])])) := ⟨by
                  have h1 := (HP2.out.below bP).cons (u := .slice (some ⟨we.heap.size, 0, none⟩) 2 2) (Kd.R_lower (pair_R we (i : Int) kk) HB2.out.size) (fun p hp k hk he => by
                    have h2 := HP2.out.lt hp he
                    have h3 : we.heap.size = k := by simpa [Value.ownBlock] using hk
                    omega)
                  exact h1.perm (List.perm_append_comm (l₁ := [_]))⟩
                clear bP h2
                go_wp2_with (((with_reducible refine gate_builtin (b := .append) (xs := #[.tmp 48, .tmp 52]) rfl ?_); at_builtin; refine Kd.R_append (Kd.raw 1) (w0 := w1) w1.heap.size rfl (.tmp 48) (.tmp 52) 37 24 (.slice none 0 0) 24 rfl Try.underlying37 info24 rfl (by decide) (by omega) u6 (qs.map fun p : Value × List Int => [p.1]) [.slice (some ⟨we.heap.size, 0, none⟩) 2 2] [.slice (some ⟨we.heap.size, 0, none⟩) 2 2] (fun _ => True) (fun _ => False) rfl (by show Value.slice (some ⟨we.heap.size + 1, 0, none⟩) 1 1 = _; simp) ⟨rfl, rfl, fun u hu => by rw [List.mem_singleton.1 hu]; rfl⟩ (fun _ hk => hk.elim) (fun _ _ => trivial) HO3.out HB3.out HB3.out.size ?aL ?_; (case aL => simp; omega); intro v5 w5 ho_ hb_ hg_ ha_; have HO5 := Aside0.mk ho_; have HB5 := Aside0.mk hb_; have HG5 := Aside0.mk hg_; clear ho_ hb_ hg_ ha_))
                rw [hk1.out]
                go_roundw
                case rel => exact ⟨j + 1, qs ++ [(.slice (some ⟨we.heap.size, 0, none⟩) 2 2, [(i : Int), kk])], rfl, ⟨by have := hkn.out; omega⟩, hq1, ⟨HP3.out.grown HO3.out HG5.out⟩, ⟨by unfold RowsO; rw [List.map_append]; exact HO5.out⟩, HB5⟩
                case measure => rw [← hkk.out]; have := hkn.out; simp [intOf]; omega
              · have hb2 : ((cq : Int) == 2) = false := by simp; omega
                have hq1 : Aside0 (qs.map Prod.snd = pairsBy (cm F) F.length i ++ pairRow (cm F) i (j + 1)) := ⟨by rw [hqs.out, pairRow_succ, htc, decide_eq_false h2]; simp⟩
                replace htc := Aside0.mk htc
                clear h2
                go_wp2_with fail
                rw [hk1.out]
                go_roundw
                case rel => exact ⟨j + 1, qs, rfl, ⟨by have := hkn.out; omega⟩, hq1, HP2, HO2, HB2⟩
                case measure => rw [← hkk.out]; have := hkn.out; simp [intOf]; omega
        · have hl2 : decide (((i + 1 + j : Nat) : Int) < (F.length : Int)) = false := decide_eq_false (by omega)
          have hq1 : Aside0 (qs.map Prod.snd = pairsBy (cm F) F.length (i + 1)) := ⟨by rw [hqs.out, pairsBy_succ, show F.length - (i + 1) = j by omega]⟩
          generalize ((i + 1 + j : Nat) : Int) = kk at hl2
          go_wp2_with fail
          go_roundw
          case rel => exact ⟨i + 1, qs, by go_num, ⟨by omega⟩, hq1, HP, HO, HB⟩
          case measure => simp [intOf]; omega
    · have hl : decide ((i : Int) < (F.length : Int)) = false := decide_eq_false (by omega)
      obtain rfl : i = F.length := by omega
      have hS := RowsO.S HP.out HO.out
      rw [hps.out] at hS
      have hS2 := Aside0.mk (Kd.S_lower hS HB1.out.size)
      have HBf := Aside0.mk (below_step HB1.out HB.out)
      clear hS HP HO hps
      go_wp2_with fail
      go_ret
      exact ⟨_, rfl, hS2.out, HBf.out⟩
def spec_reNext.f (a0 : Int) (l1 : List S64) : Option (List (List Int)) := (spec_reList.f a0 l1).bind fun F => if F.length ≤ 1000 ∧ ∀ x ∈ F, x.length ≤ 1000 then some (reNextOf F) else none
end Go.Proofs.Yteeghncofacmhaa.Q
end
section
/- impl.PlaneRegions by hand: its rows lie apart. -/
namespace Go.Proofs.Yteeghncofacmhaa.Q
open Go.RowKit Go.Proofs.YteeghncofacmhaaW.PrintWords Go.Proofs.YteeghncofacmhaaW.PrintLast Go.Proofs.YteeghncofacmhaaW.PrintMore
attribute [local go_sem] max2_int min2_int max_two min_two max_three min_three max_four min_four
set_option linter.unusedVariables false
set_option linter.unusedSimpArgs false
end Go.Proofs.Yteeghncofacmhaa.Q
end
section
namespace Go.Proofs.Yteeghncofacmhaa.Q
open Go.RowKit Go.Proofs.YteeghncofacmhaaW.PrintWords Go.Proofs.YteeghncofacmhaaW.PrintLast Go.Proofs.YteeghncofacmhaaW.PrintMore
attribute [local go_sem] max2_int min2_int max_two min_two max_three min_three max_four min_four   -- for this text's walks alone
set_option linter.unusedVariables false
set_option linter.unusedSimpArgs false
/-! ### spec_RegionSizes: function 11 -/
def spec_RegionSizes.l0 : Nat → List Int → List (List Int) → Int → Int → Option (List Int × Bool)
  | 0, _, _, _, _ => none
  | k + 1, x6, x15, x16, x17 => if x17 < x16 then (if 0 ≤ x17 then (if x17 < (x15.length : Int) then (if x6.length < 17592186044416 then (spec_RegionSizes.l0 k (x6 ++ [((rd_L4 x15 x17).length : Int)]) x15 x16 (wrap64 (x17 + 1))) else (none)) else (none)) else (none)) else (some (x6, true))
def spec_RegionSizes.f (k : Nat) (a0 : Int) (l1 : List (S64)) : Option (List Int × Bool) := (spec_rePlane.f k a0 l1).bind fun t101 => (if t101 = true then ((spec_reList.f a0 l1).bind fun t102 => (spec_RegionSizes.l0 k ([] : List Int) t102 (t102.length : Int) 0)) else (some (([] : List Int), false)))
end Go.Proofs.Yteeghncofacmhaa.Q
end
section
namespace Go.Proofs.Yteeghncofacmhaa.Q
open Go.RowKit Go.Proofs.YteeghncofacmhaaW.PrintWords Go.Proofs.YteeghncofacmhaaW.PrintLast Go.Proofs.YteeghncofacmhaaW.PrintMore
attribute [local go_sem] max2_int min2_int max_two min_two max_three min_three max_four min_four   -- for this text's walks alone
set_option linter.unusedVariables false
set_option linter.unusedSimpArgs false
/-! ### impl_RegionSizes: function 13 -/
def impl_RegionSizes.l0 : Nat → List Int → List (S71) → Int → Int → Option (List Int × Bool)
  | 0, _, _, _, _ => none
  | k + 1, x8, x20, x21, x22 => if x22 < x21 then (if 0 ≤ x22 then (if x22 < (x20.length : Int) then (if x8.length < 17592186044416 then (impl_RegionSizes.l0 k (x8 ++ [(((rd_T71 x20 x22).f0).length : Int)]) x20 x21 (wrap64 (x22 + 1))) else (none)) else (none)) else (none)) else (some (x8, true))
def impl_RegionSizes.f (k : Nat) (a0 : Int) (l1 : List (S64)) : Option (List Int × Bool) := (impl_planeRegions.f a0 l1).bind fun bt101 => (if bt101.2 = true then (impl_RegionSizes.l0 k (([] : List Int)) bt101.1 (bt101.1.length : Int) 0) else (some (([] : List Int), false)))
end Go.Proofs.Yteeghncofacmhaa.Q
end
section
namespace Go.Proofs.Yteeghncofacmhaa.Q
open Go.RowKit Go.Proofs.YteeghncofacmhaaW.PrintWords Go.Proofs.YteeghncofacmhaaW.PrintLast Go.Proofs.YteeghncofacmhaaW.PrintMore
attribute [local go_sem] max2_int min2_int max_two min_two max_three min_three max_four min_four   -- for this text's walks alone
set_option linter.unusedVariables false
set_option linter.unusedSimpArgs false
/-! ### laws_FnExactRegionSizes: function 3 -/
mutual
def laws_FnExactRegionSizes.j0 : Nat → Int → List (S66) → List Int → Bool → List (S64) → List Int → Bool → Bool → Option (Bool)
  | 0, _, _, _, _, _, _, _, _ => none
  | k + 1, x0, x1, x6, x7, x8, x9, x10, x44 => if x44 = true then (some false) else ((laws_toChordS.f k x1).bind fun t117 => ((laws_eqChordS.f k x8 t117).bind fun t120 => (if t120 = true then ((laws_markChordS.f k x8 1).bind fun bt121 => (if bt121.1 < 0 then (laws_FnExactRegionSizes.j1 k x0 x1 x6 x7 x9 true) else ((laws_eqIntS.f k x9 x6).bind fun t123 => (if t123 = true then (laws_FnExactRegionSizes.j1 k x0 x1 x6 x7 x9 (x10 != x7)) else (laws_FnExactRegionSizes.j1 k x0 x1 x6 x7 x9 true))))) else (some false))))
def laws_FnExactRegionSizes.j1 : Nat → Int → List (S66) → List Int → Bool → List Int → Bool → Option (Bool)
  | 0, _, _, _, _, _, _ => none
  | k + 1, x0, x1, x6, x7, x9, x65 => if x65 = true then (some false) else ((laws_markIntS.f k x9 1).bind fun bt124 => ((laws_heldIntS.f k bt124.2 1).bind fun t126 => (if t126 < 0 then (some false) else (if t126 = bt124.1 then ((laws_toChordS.f k x1).bind fun t127 => ((impl_RegionSizes.f k x0 t127).bind fun bt130 => ((laws_eqIntS.f k bt130.1 x6).bind fun t134 => (if t134 = true then (laws_FnExactRegionSizes.j2 k bt124.2 bt124.1 (bt130.2 != x7)) else (laws_FnExactRegionSizes.j2 k bt124.2 bt124.1 true))))) else (some false)))))
def laws_FnExactRegionSizes.j2 : Nat → List Int → Int → Bool → Option (Bool)
  | 0, _, _, _ => none
  | k + 1, x9, x12, x92 => if x92 = true then (some false) else ((laws_heldIntS.f k x9 1).bind fun t135 => (if t135 < 0 then (some false) else (if t135 = x12 then (some true) else (some false))))
end
def laws_FnExactRegionSizes.f (k : Nat) (a0 : Int) (l1 : List (S66)) : Option (Bool) := (laws_szChordS.f l1 1048576).bind fun t101 => (if t101 < 0 then (some true) else ((laws_toChordS.f k l1).bind fun t102 => ((spec_RegionSizes.f k a0 t102).bind fun bt105 => ((laws_toChordS.f k l1).bind fun t109 => ((impl_RegionSizes.f k a0 t109).bind fun bt112 => ((laws_eqIntS.f k bt112.1 bt105.1).bind fun t116 => (if t116 = true then (laws_FnExactRegionSizes.j0 k a0 l1 bt105.1 bt105.2 t109 bt112.1 bt112.2 (bt112.2 != bt105.2)) else (laws_FnExactRegionSizes.j0 k a0 l1 bt105.1 bt105.2 t109 bt112.1 bt112.2 true))))))))
end Go.Proofs.Yteeghncofacmhaa.Q
end
section
/- RegionSizes: both sides tell the same; the law is true. -/
namespace Go.Proofs.Yteeghncofacmhaa.Q
open Go.RowKit Go.Proofs.YteeghncofacmhaaW.PrintWords Go.Proofs.YteeghncofacmhaaW.PrintLast Go.Proofs.YteeghncofacmhaaW.PrintMore
set_option linter.unusedVariables false
set_option linter.unusedSimpArgs false
theorem regs_points {n : Int} {l : List Ch} (h : plane n l = true) : (regs n l).map (fun x => x.f0) = faces n l := by
  have hnc := plane_nc h
  have hn := (good_n (plane_good h)).1
  unfold regs faces
  rw [List.map_mergeSort (s := fun x y => lexLe x y) (fun _ _ _ _ => rfl), List.map_map]
  congr 1
  refine List.map_congr_left fun q hq => ?_
  exact reg_points hnc (by omega) (mem_ids.1 hq)
theorem reList_eq {n : Int} {l : List Ch} (h : plane n l = true) : spec_reList.f n l = some (faces n l) := by
  unfold spec_reList.f
  rw [if_pos ⟨(good_n (plane_good h)).2, good_len (plane_good h)⟩, reRegions_eq (plane_nc h) (good_nodup (plane_good h))]
theorem faces_length (n : Int) (l : List Ch) : (faces n l).length = l.length + 1 := by
  unfold faces ids; simp
theorem regs_length (n : Int) (l : List Ch) : (regs n l).length = l.length + 1 := by
  unfold regs ids; simp
theorem rdReg_at {xs : List S71} {i : Nat} (h : i < xs.length) : rd_T71 xs (i : Int) = xs[i] := by
  simp [rd_T71, List.getD_eq_getElem?_getD, List.getElem?_eq_getElem h]
theorem rdL4_at {xs : List (List Int)} {i : Nat} (h : i < xs.length) : rd_L4 xs (i : Int) = xs[i] := by
  simp [rd_L4, List.getD_eq_getElem?_getD, List.getElem?_eq_getElem h]
end Go.Proofs.Yteeghncofacmhaa.Q
end
section
namespace Go.Proofs.Yteeghncofacmhaa.Q
open Go.RowKit Go.Proofs.YteeghncofacmhaaW.PrintWords Go.Proofs.YteeghncofacmhaaW.PrintLast Go.Proofs.YteeghncofacmhaaW.PrintMore
attribute [local go_sem] max2_int min2_int max_two min_two max_three min_three max_four min_four   -- for this text's walks alone
set_option linter.unusedVariables false
set_option linter.unusedSimpArgs false
/-! ### spec_l1Least: function 84 -/
def spec_l1Least.f (a0 : Int) (a1 : Int) : Option (Int) := if a0 < a1 then (some a0) else (some a1)
end Go.Proofs.Yteeghncofacmhaa.Q
end
section
namespace Go.Proofs.Yteeghncofacmhaa.Q
open Go.RowKit Go.Proofs.YteeghncofacmhaaW.PrintWords Go.Proofs.YteeghncofacmhaaW.PrintLast Go.Proofs.YteeghncofacmhaaW.PrintMore
attribute [local go_sem] max2_int min2_int max_two min_two max_three min_three max_four min_four   -- for this text's walks alone
set_option linter.unusedVariables false
set_option linter.unusedSimpArgs false
/-! ### spec_l1Most: function 85 -/
def spec_l1Most.f (a0 : Int) (a1 : Int) : Option (Int) := if a0 > a1 then (some a0) else (some a1)
end Go.Proofs.Yteeghncofacmhaa.Q
end
section
namespace Go.Proofs.Yteeghncofacmhaa.Q
open Go.RowKit Go.Proofs.YteeghncofacmhaaW.PrintWords Go.Proofs.YteeghncofacmhaaW.PrintLast Go.Proofs.YteeghncofacmhaaW.PrintMore
attribute [local go_sem] max2_int min2_int max_two min_two max_three min_three max_four min_four   -- for this text's walks alone
set_option linter.unusedVariables false
set_option linter.unusedSimpArgs false
/-! ### spec_srChord: function 108 -/
def spec_srChord.f (a0 : Int) (a1 : Int) : Option (Int × Int) := (spec_l1Least.f a0 a1).bind fun t102 => ((spec_l1Most.f a0 a1).bind fun t103 => (some (t102, t103)))
end Go.Proofs.Yteeghncofacmhaa.Q
end
section
namespace Go.Proofs.Yteeghncofacmhaa.Q
open Go.RowKit Go.Proofs.YteeghncofacmhaaW.PrintWords Go.Proofs.YteeghncofacmhaaW.PrintLast Go.Proofs.YteeghncofacmhaaW.PrintMore
attribute [local go_sem] max2_int min2_int max_two min_two max_three min_three max_four min_four   -- for this text's walks alone
set_option linter.unusedVariables false
set_option linter.unusedSimpArgs false
attribute [local go_sem high] eqA64
/-! ### spec_reArc: function 62 -/
mutual
def spec_reArc.l0 : Nat → List (S64) → Int → Int → List (List Int) → Int → Int → Option (Int)
  | 0, _, _, _, _, _, _ => none
  | k + 1, x1, x3, x9, x19, x20, x21 => if x21 < x20 then (if 0 ≤ x21 then (if x21 < (x19.length : Int) then ((spec_l1Has.f k (rd_L4 x19 x21) x3).bind fun t102 => (if t102 = true then ((spec_l1Has.f k (rd_L4 x19 x21) x9).bind fun t103 => (spec_reArc.j1 k x1 x3 x9 x21 (rd_L4 x19 x21) x19 x20 x21 (!t103))) else (spec_reArc.j1 k x1 x3 x9 x21 (rd_L4 x19 x21) x19 x20 x21 true))) else (none)) else (none)) else (some (-1))
def spec_reArc.j1 : Nat → List (S64) → Int → Int → Int → List Int → List (List Int) → Int → Int → Bool → Option (Int)
  | 0, _, _, _, _, _, _, _, _, _ => none
  | k + 1, x1, x3, x9, x10, x11, x19, x20, x21, x35 => if x35 = true then (spec_reArc.l0 k x1 x3 x9 x19 x20 (wrap64 (x21 + 1))) else (spec_reArc.l1 k x1 x3 x9 x10 x11 false x19 x20 x21 x1 (x1.length : Int) 0)
def spec_reArc.l1 : Nat → List (S64) → Int → Int → Int → List Int → Bool → List (List Int) → Int → Int → List (S64) → Int → Int → Option (Int)
  | 0, _, _, _, _, _, _, _, _, _, _, _, _ => none
  | k + 1, x1, x3, x9, x10, x11, x12, x19, x20, x21, x36, x37, x38 => if x38 < x37 then (if 0 ≤ x38 then (if x38 < (x36.length : Int) then (if x12 = true then (spec_reArc.l1 k x1 x3 x9 x10 x11 true x19 x20 x21 x36 x37 (wrap64 (x38 + 1))) else ((spec_srChord.f x3 x9).bind fun bt106 => (spec_reArc.l1 k x1 x3 x9 x10 x11 (((rd_T64 x36 x38).f0) == bt106.1 && (((rd_T64 x36 x38).f1) == bt106.2)) x19 x20 x21 x36 x37 (wrap64 (x38 + 1))))) else (none)) else (none)) else (if x12 = true then (if (x11.length : Int) = 2 then (some x10) else (spec_reArc.l0 k x1 x3 x9 x19 x20 (wrap64 (x21 + 1)))) else (some x10))
end
def spec_reArc.f (k : Nat) (a0 : Int) (l1 : List (S64)) (l2 : List (List Int)) (a3 : Int) : Option (Int) := if a0 = 0 then (none) else (spec_reArc.l0 k l1 a3 (Int.tmod (wrap64 (a3 + 1)) a0) l2 (l2.length : Int) 0)
end Go.Proofs.Yteeghncofacmhaa.Q
end
section
namespace Go.Proofs.Yteeghncofacmhaa.Q
open Go.RowKit Go.Proofs.YteeghncofacmhaaW.PrintWords Go.Proofs.YteeghncofacmhaaW.PrintLast Go.Proofs.YteeghncofacmhaaW.PrintMore
attribute [local go_sem] max2_int min2_int max_two min_two max_three min_three max_four min_four   -- for this text's walks alone
set_option linter.unusedVariables false
set_option linter.unusedSimpArgs false
/-! ### spec_RegionOfArc: function 19 -/
def spec_RegionOfArc.j0 : Nat → Int → List (S64) → Int → Bool → Option (Int × Bool)
  | 0, _, _, _, _ => none
  | k + 1, x0, x1, x2, x18 => if x18 = true then (some (0, false)) else ((spec_reList.f x0 x1).bind fun t103 => ((spec_reArc.f k x0 x1 t103 x2).bind fun t106 => (some (t106, true))))
def spec_RegionOfArc.f (k : Nat) (a0 : Int) (l1 : List (S64)) (a2 : Int) : Option (Int × Bool) := (spec_rePlane.f k a0 l1).bind fun t101 => (if t101 = true then ((spec_l1In.f a2 0 (wrap64 (a0 - 1))).bind fun t102 => (spec_RegionOfArc.j0 k a0 l1 a2 (!t102))) else (spec_RegionOfArc.j0 k a0 l1 a2 true))
end Go.Proofs.Yteeghncofacmhaa.Q
end
section
namespace Go.Proofs.Yteeghncofacmhaa.Q
open Go.RowKit Go.Proofs.YteeghncofacmhaaW.PrintWords Go.Proofs.YteeghncofacmhaaW.PrintLast Go.Proofs.YteeghncofacmhaaW.PrintMore
attribute [local go_sem] max2_int min2_int max_two min_two max_three min_three max_four min_four   -- for this text's walks alone
set_option linter.unusedVariables false
set_option linter.unusedSimpArgs false
/-! ### laws_FnExactRegionOfArc: function 4 -/
def laws_FnExactRegionOfArc.j0 : Nat → List (S66) → List (S64) → Bool → Option (Bool)
  | 0, _, _, _ => none
  | k + 1, x1, x10, x42 => if x42 = true then (some false) else ((laws_toChordS.f k x1).bind fun t112 => ((laws_eqChordS.f k x10 t112).bind fun t115 => (if t115 = true then (some true) else (some false))))
def laws_FnExactRegionOfArc.f (k : Nat) (a0 : Int) (l1 : List (S66)) (a2 : Int) : Option (Bool) := (laws_szChordS.f l1 1048576).bind fun t101 => (if t101 < 0 then (some true) else ((laws_toChordS.f k l1).bind fun t102 => ((spec_RegionOfArc.f k a0 t102 a2).bind fun bt105 => ((laws_toChordS.f k l1).bind fun t107 => ((impl_RegionOfArc.f a0 t107 a2).bind fun bt110 => (if bt110.1 = bt105.1 then (laws_FnExactRegionOfArc.j0 k l1 t107 (bt110.2 != bt105.2)) else (laws_FnExactRegionOfArc.j0 k l1 t107 true)))))))
end Go.Proofs.Yteeghncofacmhaa.Q
end
section
/- RegionOfArc: both sides tell the same region; the law is true. -/
namespace Go.Proofs.Yteeghncofacmhaa.Q
open Go.RowKit Go.Proofs.YteeghncofacmhaaW.PrintWords Go.Proofs.YteeghncofacmhaaW.PrintLast Go.Proofs.YteeghncofacmhaaW.PrintMore
set_option linter.unusedVariables false
set_option linter.unusedSimpArgs false
theorem faces_small {n : Int} {l : List Ch} (h : plane n l = true) : ∀ r ∈ faces n l, r.length ≤ 100 := fun r hr => by
  rw [← regs_points h, List.mem_map] at hr
  obtain ⟨x, hx, rfl⟩ := hr
  exact (regs_small h hx).1
end Go.Proofs.Yteeghncofacmhaa.Q
end
section
/- FnExactPlaneRegions: the law's own walk, given that both sides tell the same rows. -/
namespace Go.Proofs.Yteeghncofacmhaa.Q
open Go.RowKit Go.Proofs.YteeghncofacmhaaW.PrintWords Go.Proofs.YteeghncofacmhaaW.PrintLast Go.Proofs.YteeghncofacmhaaW.PrintMore
attribute [local go_sem] max2_int min2_int max_two min_two max_three min_three max_four min_four
set_option linter.unusedVariables false
set_option linter.unusedSimpArgs false
end Go.Proofs.Yteeghncofacmhaa.Q
end
section
namespace Go.Proofs.Yteeghncofacmhaa.Q
open Go.RowKit Go.Proofs.YteeghncofacmhaaW.PrintWords Go.Proofs.YteeghncofacmhaaW.PrintLast Go.Proofs.YteeghncofacmhaaW.PrintMore
attribute [local go_sem] max2_int min2_int max_two min_two max_three min_three max_four min_four   -- for this text's walks alone
set_option linter.unusedVariables false
set_option linter.unusedSimpArgs false
/-! ### spec_PlaneRegions: function 21 -/
def spec_PlaneRegions.f (k : Nat) (a0 : Int) (l1 : List (S64)) : Option ((List (List Int)) × Bool) := (spec_rePlane.f k a0 l1).bind fun t101 => (if t101 = true then ((spec_reList.f a0 l1).bind fun t102 => (some (t102, true))) else (some (([] : List (List Int)), false)))
end Go.Proofs.Yteeghncofacmhaa.Q
end
section
/- PlaneRegions: both sides tell the same; the law is true. -/
namespace Go.Proofs.Yteeghncofacmhaa.Q
open Go.RowKit Go.Proofs.YteeghncofacmhaaW.PrintWords Go.Proofs.YteeghncofacmhaaW.PrintLast Go.Proofs.YteeghncofacmhaaW.PrintMore
set_option linter.unusedVariables false
set_option linter.unusedSimpArgs false
end Go.Proofs.Yteeghncofacmhaa.Q
end
section
/- FnExactNextRegions: the law's own walk, given that both sides tell the same rows. -/
namespace Go.Proofs.Yteeghncofacmhaa.Q
open Go.RowKit Go.Proofs.YteeghncofacmhaaW.PrintWords Go.Proofs.YteeghncofacmhaaW.PrintLast Go.Proofs.YteeghncofacmhaaW.PrintMore
attribute [local go_sem] max2_int min2_int max_two min_two max_three min_three max_four min_four
set_option linter.unusedVariables false
set_option linter.unusedSimpArgs false
end Go.Proofs.Yteeghncofacmhaa.Q
end
section
/- NextRegions: both sides tell the same pairs; the law is true. -/
namespace Go.Proofs.Yteeghncofacmhaa.Q
open Go.RowKit Go.Proofs.YteeghncofacmhaaW.PrintWords Go.Proofs.YteeghncofacmhaaW.PrintLast Go.Proofs.YteeghncofacmhaaW.PrintMore
attribute [local go_sem] max2_int min2_int max_two min_two max_three min_three max_four min_four
set_option linter.unusedVariables false
set_option linter.unusedSimpArgs false
theorem common_iff {n : Int} {l : List Ch} (h : NC n l) (hn : 3 ≤ n) {q q' : Option Ch} (hq : ∀ d, q = some d → d ∈ l) (hq' : ∀ d, q' = some d → d ∈ l) (hne : q ≠ q') :
    common (face n l q) (face n l q') = 2 ↔ ∃ a b : Int, a < b ∧ a ∈ face n l q ∧ b ∈ face n l q ∧ a ∈ face n l q' ∧ b ∈ face n l q' := by
  have hm : ∀ x, x ∈ (face n l q').filter (fun p => (face n l q).contains p) ↔ x ∈ face n l q' ∧ x ∈ face n l q := fun x => by
    rw [List.mem_filter, List.contains_iff_mem]
  have hs : ((face n l q').filter (fun p => (face n l q).contains p)).Pairwise (· < ·) := (face_lt n l q').filter _
  have hc : common (face n l q) (face n l q') = ((face n l q').filter (fun p => (face n l q).contains p)).length := by
    unfold common; rw [List.countP_eq_length_filter]
  rw [hc]
  generalize hL : (face n l q').filter (fun p => (face n l q).contains p) = L at hm hs
  constructor
  · intro h2
    match L, h2, hs with
    | [a, b], _, hs =>
      have hab : a < b := by simpa using hs
      have ha := (hm a).1 (by simp)
      have hb := (hm b).1 (by simp)
      exact ⟨a, b, hab, ha.2, hb.2, ha.1, hb.1⟩
  · rintro ⟨a, b, hab, ha, hb, ha', hb'⟩
    have hLa := (hm a).2 ⟨ha', ha⟩
    have hLb := (hm b).2 ⟨hb', hb⟩
    match L, hs, hm, hLa, hLb with
    | [], _, _, hLa, _ => simp at hLa
    | [x], _, _, hLa, hLb => simp at hLa hLb; omega
    | [x, y], _, _, _, _ => rfl
    | x :: y :: z :: t, hs, hm, _, _ =>
      exfalso
      rw [List.pairwise_cons] at hs
      have h1 := hs.1 y (by simp)
      have h2 := (List.pairwise_cons.1 hs.2).1 z (by simp)
      have mx := (hm x).1 (by simp)
      have my := (hm y).1 (by simp)
      have mz := (hm z).1 (by simp)
      simp only [mem_face] at mx my mz
      obtain ⟨c1, _, e1, e2, o1⟩ := shared h hq hq' hne (show x < z by omega) mx.2.2 mz.2.2 mx.1.2 mz.1.2
      obtain ⟨c2, _, e3, e4, o2⟩ := shared h hq hq' hne h1 mx.2.2 my.2.2 mx.1.2 my.1.2
      obtain ⟨c3, _, e5, e6, o3⟩ := shared h hq hq' hne h2 my.2.2 mz.2.2 my.1.2 mz.1.2
      have d12 : c1 ≠ c2 := fun e => by subst e; omega
      have d13 : c1 ≠ c3 := fun e => by subst e; omega
      have d23 : c2 ≠ c3 := fun e => by subst e; omega
      have hinj : ∀ {c d : Ch} {p : Option Ch}, c ≠ d → p = some c → p = some d → False := fun hcd e1 e2 => hcd (Option.some.inj (e1.symm.trans e2))
      rcases o1 with ⟨o1, _⟩ | ⟨o1, _⟩ <;> rcases o2 with ⟨o2, _⟩ | ⟨o2, _⟩ <;> rcases o3 with ⟨o3, _⟩ | ⟨o3, _⟩
      all_goals first
        | exact hinj d12 o1 o2
        | exact hinj d13 o1 o3
        | exact hinj d23 o2 o3
theorem touch_iff {n : Int} {l : List Ch} (h : NC n l) (hn : 3 ≤ n) {q q' : Option Ch} (hq : ∀ d, q = some d → d ∈ l) (hq' : ∀ d, q' = some d → d ∈ l) (hne : q ≠ q') :
    (∃ c, c ∈ (regOf n l q).2.1 ∧ c ∈ (regOf n l q').2.1) ↔ ∃ a b : Int, a < b ∧ a ∈ face n l q ∧ b ∈ face n l q ∧ a ∈ face n l q' ∧ b ∈ face n l q' := by
  have hends : ∀ (p : Option Ch), (∀ d, p = some d → d ∈ l) → ∀ c, c ∈ (regOf n l p).2.1 → c ∈ l ∧ InF l p c.f0 ∧ InF l p c.f1 := fun p hp c hc => by
    rcases (reg_chords h (by omega) hp c).1 hc with e | ⟨h1, _, h2, h3⟩
    · have := lo_in h (by omega) hp
      subst e
      exact ⟨hp c rfl, this.2.2.2.1, this.2.2.2.2⟩
    · exact ⟨h1, h2, h3⟩
  constructor
  · rintro ⟨c, h1, h2⟩
    obtain ⟨hc, a1, b1⟩ := hends q hq c h1
    obtain ⟨_, a2, b2⟩ := hends q' hq' c h2
    have hok := h.ok c hc
    exact ⟨c.f0, c.f1, hok.2.1, mem_face.2 ⟨by omega, a1⟩, mem_face.2 ⟨by omega, b1⟩, mem_face.2 ⟨by omega, a2⟩, mem_face.2 ⟨by omega, b2⟩⟩
  · rintro ⟨a, b, hab, ha, hb, ha', hb'⟩
    rw [mem_face] at ha hb ha' hb'
    obtain ⟨c, hc, e1, e2, o⟩ := shared h hq hq' hne hab ha.2 hb.2 ha'.2 hb'.2
    subst e1 e2
    rcases o with ⟨o, hbl⟩ | ⟨o, hbl⟩
    · exact ⟨c, (reg_chords h (by omega) hq c).2 (.inl o), (reg_chords h (by omega) hq' c).2 (.inr ⟨hc, hbl, ha'.2, hb'.2⟩)⟩
    · exact ⟨c, (reg_chords h (by omega) hq c).2 (.inr ⟨hc, hbl, ha.2, hb.2⟩), (reg_chords h (by omega) hq' c).2 (.inl o)⟩
theorem regs_nodup {n : Int} {l : List Ch} (h : plane n l = true) : (regs n l).Pairwise (fun x y => x.f0 ≠ y.f0) := by
  have hn := good_n (plane_good h)
  have h1 : (ids l).Pairwise (fun q q' => (rg (regOf n l q)).f0 ≠ (rg (regOf n l q')).f0) := by
    refine List.Pairwise.imp_of_mem ?_ (ids_nodup (good_nodup (plane_good h)))
    intro q q' hq hq' hne he
    have e1 : face n l q = face n l q' := by
      rw [← reg_points (plane_nc h) (by omega) (mem_ids.1 hq), ← reg_points (plane_nc h) (by omega) (mem_ids.1 hq')]
      exact he
    exact hne (face_inj (plane_nc h) (by omega) (mem_ids.1 hq) (mem_ids.1 hq') e1)
  have h2 : ((ids l).map fun q => rg (regOf n l q)).Pairwise (fun x y => x.f0 ≠ y.f0) := List.pairwise_map.2 h1
  unfold regs
  exact ((List.mergeSort_perm _ _).pairwise_iff (fun {a b} hab => fun e => hab e.symm)).2 h2
theorem touch_cm {n : Int} {l : List Ch} (h : plane n l = true) {i k : Nat} (hik : i < k) (hk : k < (regs n l).length) : touch (regs n l) i k = cm (faces n l) i k := by
  have hn := (good_n (plane_good h)).1
  have hi : i < (regs n l).length := by omega
  have hfl : (faces n l).length = (regs n l).length := by rw [faces_length, regs_length]
  have hf : ∀ j (hj : j < (regs n l).length), rd_L4 (faces n l) (j : Int) = ((regs n l)[j]).f0 := fun j hj => by
    rw [rdL4_at (by omega)]
    have h1 := regs_points h
    have h2 : ((regs n l).map (fun x => x.f0))[j]? = some ((regs n l)[j]).f0 := by rw [List.getElem?_map, List.getElem?_eq_getElem hj]; rfl
    rw [h1, List.getElem?_eq_getElem (by omega)] at h2
    exact Option.some.inj h2
  obtain ⟨q, hq, eq⟩ := regs_mem (List.getElem_mem hi)
  obtain ⟨q', hq', eq'⟩ := regs_mem (List.getElem_mem hk)
  have hne : q ≠ q' := fun e => by
    subst e
    have := List.pairwise_iff_getElem.1 (regs_nodup h) i k hi hk hik
    rw [eq, eq'] at this
    exact this rfl
  have e1 : ((regs n l)[i]).f0 = face n l q := by rw [eq]; exact reg_points (plane_nc h) (by omega) (mem_ids.1 hq)
  have e2 : ((regs n l)[k]).f0 = face n l q' := by rw [eq']; exact reg_points (plane_nc h) (by omega) (mem_ids.1 hq')
  unfold touch cm
  rw [hf i hi, hf k hk, e1, e2, rdReg_at hi, rdReg_at hk, eq, eq', Bool.eq_iff_iff, decide_eq_true_iff, common_iff (plane_nc h) hn (mem_ids.1 hq) (mem_ids.1 hq') hne, ← touch_iff (plane_nc h) hn (mem_ids.1 hq) (mem_ids.1 hq') hne, List.any_eq_true]
  constructor
  · rintro ⟨c, h1, h2⟩; exact ⟨c, h1, List.contains_iff_mem.1 h2⟩
  · rintro ⟨c, h1, h2⟩; exact ⟨c, h1, List.contains_iff_mem.2 h2⟩
theorem pairRow_congr {t t' : Nat → Nat → Bool} {i n : Nat} (h : ∀ k, i < k → k < n → t i k = t' i k) : ∀ m, i + 1 + m ≤ n → pairRow t i m = pairRow t' i m
  | 0, _ => rfl
  | m + 1, hm => by rw [pairRow_succ, pairRow_succ, pairRow_congr h m (by omega), h (i + 1 + m) (by omega) (by omega)]
theorem pairsBy_congr {t t' : Nat → Nat → Bool} {n : Nat} (h : ∀ i k, i < k → k < n → t i k = t' i k) : ∀ m, m ≤ n → pairsBy t n m = pairsBy t' n m
  | 0, _ => rfl
  | m + 1, hm => by rw [pairsBy_succ, pairsBy_succ, pairsBy_congr h m (by omega), pairRow_congr (h m) (n - (m + 1)) (by omega)]
theorem next_eq {n : Int} {l : List Ch} (h : plane n l = true) : impl_neighbours.f (regs n l) = reNextOf (faces n l) := by
  have hfl : (faces n l).length = (regs n l).length := by rw [faces_length, regs_length]
  unfold impl_neighbours.f reNextOf
  rw [hfl]
  exact pairsBy_congr (fun i k hik hk => touch_cm h hik hk) _ (Nat.le_refl _)
def nextRes (n : Int) (l : List Ch) : List (List Int) × Bool := if plane n l = true then (reNextOf (faces n l), true) else ([], false)
end Go.Proofs.Yteeghncofacmhaa.Q
end
section
/- impl.numbersWith by hand: the numbers of a range that a function holds of. -/
namespace Go.Proofs.Yteeghncofacmhaa.Q
open Go.RowKit Go.Proofs.YteeghncofacmhaaW.PrintWords Go.Proofs.YteeghncofacmhaaW.PrintLast Go.Proofs.YteeghncofacmhaaW.PrintMore
attribute [local go_sem] max2_int min2_int max_two min_two max_three min_three max_four min_four
set_option linter.unusedVariables false
set_option linter.unusedSimpArgs false
theorem ints_snoc (a : Int) (m : Nat) : ints a (m + 1) = ints a m ++ [a + (m : Int)] := by
  unfold ints; rw [List.range_succ, List.map_append]; rfl
set_option maxHeartbeats 4000000 in
set_option maxRecDepth 100000 in
theorem numbersWith_calls (lo : Int) (n : Nat) (hlo : 0 ≤ lo ∧ lo ≤ 1000000) (hn : n ≤ 1000000) (g : Nat) (lb : Array Value) (eg : ∀ args w, (callFunc g args).run Try.prog w = .ok (.enter g args) w) (p : Int → Bool) (w : World)
    (hp : ∀ (W' : World) (x : Int), lo ≤ x → x < lo + n → Below w.heap.size w W' → Calls Try.prog g (#[.int .i64 x] ++ lb) W' fun e w' => e = .returned (.bool (p x)) ∧ Below W'.heap.size W' w') :
    Calls Try.prog 76 #[.int .i64 lo, .int .i64 (lo + (n : Int) - 1), .func (.func g) #[] lb] w fun e w' => ∃ v0_ : Value, e = .returned v0_ ∧ Kd.R (Kd.int .i64) 3 w' w.heap.size (fun _ => True) v0_ ((ints lo n).filter p) ∧ Below w.heap.size w w' := by
  replace hp := Aside0.mk hp
  generalize hhi : lo + (n : Int) - 1 = hi
  obtain ⟨lo0, lo1⟩ := hlo
  have O0 : Aside0 ((Kd.int .i64).R 3 (w.alloc (.cells #[] 3)) w.heap.size (fun _ => True) (.slice (some ⟨w.heap.size, 0, none⟩) 0 0) []) := ⟨⟨fun _ _ => trivial, [], World.ownsRow_lit w #[] 0 (Nat.le_refl _) (by decide) rfl, Reps.none _ _⟩⟩
  have B0 : Aside0 (Below w.heap.size w (w.alloc (.cells #[] 3))) := ⟨below_alloc (Below.refl _ _) _⟩
  go_enter Try.func76, Try.ntmps76
  go_wp2_with fail
  go_loopw [7, 8] (fun v7 v8 wr => ∃ (j : Nat), v8 = .int .i64 (lo + (j : Int)) ∧ Aside0 (j ≤ n) ∧ Aside0 ((Kd.int .i64).R 3 wr w.heap.size (fun _ => True) v7 ((ints lo j).filter p)) ∧ Aside0 (Below w.heap.size w wr)) (fun _ v8 _ => (hi + 1 - intOf v8).toNat)
  case atStart => exact ⟨0, by simp, ⟨Nat.zero_le _⟩, O0, B0⟩
  case round =>
    clear O0 B0
    obtain ⟨j, rfl, hj, HO, HB⟩ := hrel
    replace hj := hj.out
    by_cases hlt : j < n
    · have hl : decide (lo + (j : Int) ≤ hi) = true := decide_eq_true (by omega)
      have hcall := hp.out wr (lo + (j : Int)) (by omega) (by omega) HB.out
      have hfl : ((ints lo j).filter p).length ≤ 1000000 := by
        have := List.length_filter_le p (ints lo j)
        simp [ints] at this
        exact Nat.le_trans (by simpa [ints] using List.length_filter_le p (ints lo j)) (by omega)
      have hsn := ints_snoc lo j
      generalize hx : lo + (j : Int) = x at hl hcall hsn
      cases hb : p x with
      | true =>
        rw [hb] at hcall
        have hres : Aside0 ((ints lo (j + 1)).filter p = (ints lo j).filter p ++ [x]) := ⟨by rw [hsn, List.filter_append, List.filter_cons, hb]; simp⟩
        replace hb := Aside0.mk hb
        generalize (ints lo j).filter p = fl at HO hres hfl
        replace hcall := Aside0.mk hcall
        clear hsn
        go_wp2_with (first | (go_at_fn g; refine hcall.out.mono ?_; rintro e w' ⟨rfl, hb'⟩; have HO2 := Aside0.mk (Kd.R_below HO.out hb'); have HB2 := Aside0.mk (below_step HB.out hb'); clear hb') | ((with_reducible refine gate_builtin (b := .append) (xs := #[.tmp 19, .tmp 21]) rfl ?_); at_builtin; refine Kd.R_append (Kd.int .i64) (w0 := w) w.heap.size rfl (.tmp 19) (.tmp 21) 24 3 (.int .i64 0) 8 rfl Try.underlying24 info3 rfl (by decide) (by omega) _ fl x [.int .i64 x] (fun _ => True) (fun _ => False) rfl rfl rfl (fun _ hk => hk.elim) (fun _ _ => trivial) HO2.out HB2.out HB2.out.size ?aL ?_; (case aL => omega); intro v1 w1 ho1 hb1 hg1 ha1; have HO1 := Aside0.mk ho1; have HB1 := Aside0.mk hb1; clear ho1 hb1 hg1 ha1))
        go_roundw
        case rel => exact ⟨j + 1, by rw [← hx]; go_num, ⟨by omega⟩, ⟨by rw [hres.out]; exact HO1.out⟩, HB1⟩
        case measure => simp [intOf]; omega
      | false =>
        rw [hb] at hcall
        have hres : Aside0 ((ints lo (j + 1)).filter p = (ints lo j).filter p) := ⟨by rw [hsn, List.filter_append, List.filter_cons, hb]; simp⟩
        replace hb := Aside0.mk hb
        generalize (ints lo j).filter p = fl at HO hres hfl
        replace hcall := Aside0.mk hcall
        clear hsn
        go_wp2_with (go_at_fn g; refine hcall.out.mono ?_; rintro e w' ⟨rfl, hb'⟩; have HO2 := Aside0.mk (Kd.R_below HO.out hb'); have HB2 := Aside0.mk (below_step HB.out hb'); clear hb')
        go_roundw
        case rel => exact ⟨j + 1, by rw [← hx]; go_num, ⟨by omega⟩, ⟨by rw [hres.out]; exact HO2.out⟩, HB2⟩
        case measure => simp [intOf]; omega
    · have hl : decide (lo + (j : Int) ≤ hi) = false := decide_eq_false (by omega)
      obtain rfl : j = n := by omega
      go_wp2_with fail
      go_ret
      exact ⟨_, rfl, HO.out, HB.out⟩
end Go.Proofs.Yteeghncofacmhaa.Q
end
section
/- impl.EndRegions by hand. -/
namespace Go.Proofs.Yteeghncofacmhaa.Q
open Go.RowKit Go.Proofs.YteeghncofacmhaaW.PrintWords Go.Proofs.YteeghncofacmhaaW.PrintLast Go.Proofs.YteeghncofacmhaaW.PrintMore
attribute [local go_sem] max2_int min2_int max_two min_two max_three min_three max_four min_four
set_option linter.unusedVariables false
set_option linter.unusedSimpArgs false
def bumpW (cs : List Int) (i : Int) : List Int := cs.set i.toNat (wrap64 (rd cs i + 1))
def talW (cs : List Int) (ps : List (List Int)) : List Int := ps.foldl (fun cs p => bumpW (bumpW cs (rd p 0)) (rd p 1)) cs
def onesOf (cs : List Int) : List Int := (ints 0 cs.length).filter (fun i => decide (rd cs i = 1))
def endsRes (n : Int) (l : List Ch) : List Int × Bool := if plane n l = true then (onesOf (talW (List.replicate (l.length + 1) 0) (nextRes n l).1), true) else ([], false)
theorem bumpW_len (cs : List Int) (i : Int) : (bumpW cs i).length = cs.length := by simp [bumpW]
theorem talW_len : ∀ (ps : List (List Int)) (cs : List Int), (talW cs ps).length = cs.length
  | [], cs => rfl
  | p :: ps, cs => by
    show (talW (bumpW (bumpW cs (rd p 0)) (rd p 1)) ps).length = _
    rw [talW_len ps, bumpW_len, bumpW_len]
theorem pairRow_at {t : Nat → Nat → Bool} {i : Nat} : ∀ {m : Nat} {r : List Int}, r ∈ pairRow t i m → ∃ k : Nat, r = [(i : Int), (k : Int)] ∧ i < k ∧ k < i + 1 + m
  | 0, r, h => by simp [pairRow] at h
  | m + 1, r, h => by
    rw [pairRow_succ, List.mem_append] at h
    rcases h with h | h
    · obtain ⟨k, h1, h2, h3⟩ := pairRow_at h
      exact ⟨k, h1, h2, by omega⟩
    · split at h
      · exact ⟨i + 1 + m, List.mem_singleton.1 h, by omega, by omega⟩
      · simp at h
theorem pairsBy_at {t : Nat → Nat → Bool} {n : Nat} : ∀ {m : Nat} {r : List Int}, m ≤ n → r ∈ pairsBy t n m → ∃ i k : Nat, r = [(i : Int), (k : Int)] ∧ i < k ∧ k < n
  | 0, r, _, h => by simp [pairsBy] at h
  | m + 1, r, hm, h => by
    rw [pairsBy_succ, List.mem_append] at h
    rcases h with h | h
    · exact pairsBy_at (by omega) h
    · obtain ⟨k, h1, h2, h3⟩ := pairRow_at h
      exact ⟨m, k, h1, h2, by omega⟩
set_option maxHeartbeats 1000000 in
theorem end_closure (W : World) (adg : Addr) (n c b : Nat) (cs : List Int) (hC : Kd.C (Kd.int .i64) W (some adg) n cs) (hb : W.cell? ⟨b, 0, none⟩ = some (.slice (some adg) n c)) (i : Int) (h0 : 0 ≤ i) (h1 : i < n) :
    Calls Try.prog 82 #[.int .i64 i, .pointer (some ⟨b, 0, none⟩)] W fun e w' => e = .returned (.bool (decide (rd cs i = 1))) ∧ Below W.heap.size W w' := by
  obtain ⟨ad, ea, hx⟩ := Kd.at_int hC i h0 h1
  cases ea
  generalize rd cs i = z at hx ⊢
  have p1 := eq_true h0
  have q1 := eq_true h1
  have q2 : decide (i < (n : Int)) = true := decide_eq_true h1
  clear hC h0 h1
  cases hz : decide (z = 1) with
  | true =>
    have hz2 : (z == 1) = true := hz
    clear hz
    go_enter Try.func82, Try.ntmps82
    go_wp2_with fail
    go_ret
    exact ⟨rfl, Below.refl _ _⟩
  | false =>
    have hz2 : (z == 1) = false := hz
    clear hz
    go_enter Try.func82, Try.ntmps82
    go_wp2_with fail
    go_ret
    exact ⟨rfl, Below.refl _ _⟩
theorem grown_tr {w w1 w2 : World} {r : Option Nat} (h : w.grownBy w1 r) (h1 : w1.grownBy w2 r) : w.grownBy w2 r :=
  ⟨h1.os.trans h.os, h1.tape.trans h.tape, h1.output.trans h.output, Nat.le_trans h.size h1.size, fun k hk hne => (h1.block k (Nat.lt_of_lt_of_le hk h.size) hne).trans (h.block k hk hne)⟩
set_option maxHeartbeats 4000000 in
set_option maxRecDepth 100000 in
theorem implEnd_true (a0 : Int) (A : Option Addr) (c : Nat) (l : List Ch) (w : World) (hr : Kd.C k64 w A l.length l) (hc : l.length ≤ c) (hl : l.length ≤ 1048576) (hp : plane a0 l = true) :
    Calls Try.prog 30 #[.int .i64 a0, .slice A l.length c] w fun e w' => ∃ v0_ : Value, e = .returned (.tuple #[v0_, .bool true]) ∧ Kd.R (Kd.int .i64) 3 w' w.heap.size (fun _ => True) v0_ (endsRes a0 l).1 ∧ Below w.heap.size w w' := by
  have h59 := impl_planeRegions.calls a0 A c l (regs a0 l) true _ hr hc (by unfold impl_planeRegions.f; rw [if_pos (by omega), hp]; rfl)
  have hrl := regs_length a0 l
  have hl40 := good_len (plane_good hp)
  have hsm := fun x hx => (regs_small (x := x) hp hx).2.1
  have hres : (endsRes a0 l).1 = onesOf (talW (List.replicate (l.length + 1) 0) (impl_neighbours.f (regs a0 l))) := by
    unfold endsRes nextRes
    rw [if_pos hp, if_pos hp, next_eq hp]
  rw [hres]
  clear hres
  rw [← hrl]
  have hpl : (impl_neighbours.f (regs a0 l)).length ≤ 1000000 := by
    have h2 : (impl_neighbours.f (regs a0 l)).length ≤ (regs a0 l).length * (regs a0 l).length := pairsBy_len _ _ _
    have h3 : (l.length + 1) * (l.length + 1) ≤ 41 * 41 := Nat.mul_le_mul (by omega) (by omega)
    rw [hrl] at h2
    omega
  have hpat : ∀ r ∈ impl_neighbours.f (regs a0 l), ∃ i k : Nat, r = [(i : Int), (k : Int)] ∧ i < k ∧ k < (regs a0 l).length := fun r hr => pairsBy_at (Nat.le_refl _) hr
  generalize regs a0 l = rs at h59 hrl hsm hpl hpat ⊢
  have hnb : ∀ (A : Option Addr) (c : Nat) (W : World), Kd.C k71 W A rs.length rs → rs.length ≤ c → _ := fun A c W hC hc => neighbours_calls A c rs W hC hc (by omega) (fun x hx => by have := hsm x hx; omega)
  generalize impl_neighbours.f rs = ps at hnb hpl hpat ⊢
  generalize hn : rs.length = n at h59 hrl hnb hpat ⊢
  replace h59 := Aside0.mk h59
  replace hnb := Aside0.mk hnb
  replace hpat := Aside0.mk hpat
  have hn1 : 1 ≤ n := by omega
  have hn2 : n ≤ 41 := by omega
  have hnd : decide ((0 : Int) ≤ (n : Int)) = true := decide_eq_true (by omega)
  have hmk0 : (0 : Int) ≤ (n : Int) := by omega
  have hmk1 : ((n : Int)).toNat * 8 ≤ 281474976710656 := by omega
  clear hr hc hl hp hsm hrl hl40
  have HN := Aside0.mk hn
  clear hn
  go_enter Try.func30, Try.ntmps30
  go_wp2_with fail
  (with_reducible refine h59.out.mono ?_)
  rintro e w1 ⟨v0, rfl, hS, hb⟩
  obtain ⟨A1, c1, rfl, hc1, hC1⟩ := Kd.S_reads hS
  rw [HN.out] at hc1 hC1
  rw [HN.out]
  have HC1 := Aside0.mk hC1
  have Hc1 := Aside0.mk hc1
  have HB1 := Aside0.mk hb
  clear hS hC1 hc1 hb
  go_wp2_with ((with_reducible refine gate_dst (N := 21) rfl ?_); refine Kd.R_make (Kd.int .i64) (w0 := w1) w1.heap.size 3 rfl (N := 21) rfl 24 _ _ rfl (n : Int) rfl rfl Try.underlying24 (.int .i64 0) 8 info3 rfl (by decide) (by decide) 0 (ok := fun _ => True) (okp := fun _ => True) rfl (fun _ hk => hk) trivial hmk0 hmk1 (Below.refl _ _) (Nat.le_refl _) ?_; intro v2 w2 ho2 hb2 hg2 hnew2; rw [Int.toNat_natCast] at ho2; obtain ⟨g2, c2, e2, hg2b, hg2l, hg2c⟩ := Kd.R_form ho2 (by rw [List.length_replicate]; exact hn1); rw [List.length_replicate] at e2; subst e2; have HO2 := Aside0.mk ho2; have HB2 := Aside0.mk hb2; have HG2 := Aside0.mk (And.intro hg2b hg2l); clear ho2 hb2 hg2 hnew2 hg2b hg2l hg2c)
  have hB3 : Below w2.heap.size w2 (w2.alloc (.cells #[.slice (some ⟨g2, 0, none⟩) n c2] 24)) := below_alloc (Below.refl _ _) _
  have hk3 : (w2.alloc (.cells #[.slice (some ⟨g2, 0, none⟩) n c2] 24)).heap[w2.heap.size]? = some (.cells #[.slice (some ⟨g2, 0, none⟩) n c2] 24 (0, 0)) := new_block _ _
  have hz3 : (w2.alloc (.cells #[.slice (some ⟨g2, 0, none⟩) n c2] 24)).heap.size = w2.heap.size + 1 := by simp
  have hO3 := Kd.R_below HO2.out hB3
  have hgl := HG2.out.2
  have hgb := HG2.out.1
  have hBs := HB2.out.size
  have hB13 := below_step HB2.out hB3
  generalize (w2.alloc (.cells #[.slice (some ⟨g2, 0, none⟩) n c2] 24)) = w3 at hB3 hk3 hz3 hO3 hB13 ⊢
  generalize hg3 : w2.heap.size = g3 at hk3 hz3 hgl hBs ⊢
  have hcall := Aside0.mk (hnb.out A1 c1 w3 (Kd.C_below HC1.out hB13) Hc1.out)
  have HO3 := Aside0.mk hO3
  have HB13 := Aside0.mk hB13
  have HK3 := Aside0.mk hk3
  have Hz3 := Aside0.mk hz3
  have Hgl := Aside0.mk (And.intro hgl (And.intro hgb hBs))
  clear hB3 hk3 hz3 hO3 hB13 hgl hgb hBs hg3 HO2 HB2 HG2
  go_wp2_with fail
  (with_reducible refine hcall.out.mono ?_)
  rintro e w4 ⟨v4, rfl, hS4, hb4⟩
  obtain ⟨A4, c4, rfl⟩ := Kd.S_slice hS4
  have HS4 := Aside0.mk hS4
  have HB4 := Aside0.mk hb4
  clear hS4 hb4
  have O4 : Aside0 ((Kd.int .i64).R 3 w4 w1.heap.size (fun _ => True) (.slice (some ⟨g2, 0, none⟩) n c2) (talW (List.replicate n 0) (ps.take 0))) := ⟨Kd.R_below HO3.out HB4.out⟩
  have G4 : Aside0 (w4.grownBy w4 (some g2)) := ⟨⟨rfl, rfl, rfl, Nat.le_refl _, fun _ _ _ => rfl⟩⟩
  go_wp2_with fail
  go_loopw [25] (fun v25 wr => ∃ (j : Nat), v25 = .int .i64 (j : Int) ∧ Aside0 (j ≤ ps.length) ∧ Aside0 ((Kd.int .i64).R 3 wr w1.heap.size (fun _ => True) (.slice (some ⟨g2, 0, none⟩) n c2) (talW (List.replicate n 0) (ps.take j))) ∧ Aside0 (w4.grownBy wr (some g2))) (fun v25 _ => ps.length - (intOf v25).toNat)
  case atStart => exact ⟨0, rfl, ⟨Nat.zero_le _⟩, O4, G4⟩
  case round =>
    clear O4 G4
    obtain ⟨j, rfl, hj, HO, HG⟩ := hrel
    replace hj := hj.out
    have hg3l : g2 < w3.heap.size ∧ g3 < w3.heap.size ∧ g2 ≠ g3 := by have := Hgl.out.1; have := Hz3.out; omega
    have HS : Aside0 (Kd.S (Kd.slice 3 (Kd.int .i64)) 24 wr w3.heap.size (fun _ => True) (.slice A4 ps.length c4) ps) := ⟨Kd.S_mono (Kd.S_step (Kd.S_bound HS4.out) (fun k hk hlt => HG.out.block k hlt (fun e => by have := hk.2.1; injection e with e; omega))) (fun _ _ => trivial)⟩
    have HB : Aside0 (wr.heap[g3]? = some (.cells #[.slice (some ⟨g2, 0, none⟩) n c2] 24 (0, 0))) := ⟨(HG.out.block g3 (Nat.lt_of_lt_of_le hg3l.2.1 HB4.out.size) (fun e => by injection e with e; omega)).trans ((HB4.out.block g3 hg3l.2.1).trans HK3.out)⟩
    by_cases hlt : j < ps.length
    · have hl : decide ((j : Int) < (ps.length : Int)) = true := decide_eq_true (by omega)
      obtain ⟨i, k, hik, hi1, hi2⟩ := hpat.out ps[j] (List.getElem_mem hlt)
      have hrd : rd_L4 ps (j : Int) = [(i : Int), (k : Int)] := by rw [rdL4_at hlt]; exact hik
      obtain ⟨ad, A0, c0, ea, hx0, hl0, hC0⟩ := at_L4 (Kd.S_reads' HS.out).2.2 (j : Int) (by omega) (by omega)
      cases ea
      obtain ⟨ce, hce, hMe, hcc⟩ := Kd.S_get HS.out [] (j : Int) (by omega) (by omega)
      obtain ⟨ve, rfl, ge⟩ := hMe
      have hv := hcc 0 _ rfl
      rw [Nat.add_zero, show ((Kd.slice 3 (Kd.int .i64))).sz = 1 from rfl, Nat.mul_one] at hv
      replace hv := Option.some.inj (hv.symm.trans hx0)
      rw [hv] at ge
      have hge : (Kd.int .i64).R 3 wr w3.heap.size (fun _ => True) (.slice A0 (rd_L4 ps (j : Int)).length c0) (rd_L4 ps (j : Int)) := Kd.R_mono ge (fun _ _ => trivial)
      clear hv ge hcc hce
      rw [Int.toNat_natCast] at hx0
      rw [hrd] at hx0 hl0 hC0 hge
      obtain ⟨ad0, ea, hy0⟩ := Kd.at_int hC0 0 (by omega) (by simp)
      cases ea
      have HL := Aside0.mk hge
      clear hge hC0 hl0 hrd
      have hy0' : wr.cell? ad0 = some (.int .i64 (i : Int)) := by rw [show (0 : Int).toNat = 0 from rfl, Addr.add_zero'] at hy0; exact hy0
      clear hy0
      have hcs : Aside0 (talW (List.replicate n 0) (ps.take (j + 1)) = bumpW (bumpW (talW (List.replicate n 0) (ps.take j)) (i : Int)) (k : Int)) := ⟨by
        rw [List.take_succ_eq_append_getElem hlt, hik]
        unfold talW
        rw [List.foldl_append]
        rfl⟩
      generalize talW (List.replicate n 0) (ps.take j) = cs at HO hcs
      have hlen : Aside0 (n = cs.length) := ⟨(Kd.R_reads' HO.out).1⟩
      have hlb : Aside0 ((bumpW cs (i : Int)).length = n) := ⟨by rw [bumpW_len]; exact hlen.out.symm⟩
      have hi0 : (0 : Int) ≤ (i : Int) := by omega
      have hi3 : (i : Int) < (n : Int) := by omega
      have hk0 : (0 : Int) ≤ (k : Int) := by omega
      have hk3 : (k : Int) < (n : Int) := by omega
      have hwj : wrap64 ((j : Int) + 1) = ((j + 1 : Nat) : Int) := by rw [w64s (by omega) (by omega)]; omega
      replace hwj := Aside0.mk hwj
      have hlt' := Aside0.mk hlt
      clear hik hi1 hi2
      generalize (i : Int) = ii at HL hy0' hcs hi0 hi3 hlb
      generalize (k : Int) = kk at HL hcs hk0 hk3
      obtain ⟨hz1, hf1⟩ := Kd.R_celln 0 HO.out ii hi0 hi3
      have hb8 : wr.cell? ⟨g3, 0, none⟩ = some (.slice (some ⟨g2, 0, none⟩) n c2) := blk_cell HB.out 0
      have Hi := Aside0.mk (And.intro hi0 hi3)
      have Hk := Aside0.mk (And.intro hk0 hk3)
      have p1 := eq_true hi0
      have q1 := eq_true hi3
      have p2 := eq_true hk0
      have q2 := eq_true hk3
      have HG3 := Aside0.mk hg3l
      clear hi0 hi3 hk0 hk3 hg3l hj hpl
      go_wp2_with fail
      refine wp_region_still_tail 8 (by kernel_rfl) (by kernel_rfl) ?_
      simp only [List.take_succ_cons, List.take_zero, List.drop_succ_cons, List.drop_zero]
      rw [show ∀ w : World, ({ w with drawn := w.drawn + 1 } : World) = w.drew from fun _ => rfl]
      have hz1d : wr.drew.cell? ⟨g2, ii.toNat, none⟩ = some (.int .i64 (rdOf 0 cs ii)) := hz1
      have hf1d : wr.drew.frozen? ⟨g2, ii.toNat, none⟩ = false := hf1
      have hb8d : wr.drew.cell? ⟨g3, 0, none⟩ = some (.slice (some ⟨g2, 0, none⟩) n c2) := hb8
      have hy0d : wr.drew.cell? ad0 = some (.int .i64 ii) := hy0'
      have HOd := Aside0.mk (Kd.R_drew HO.out)
      have HLd := Aside0.mk (Kd.R_drew HL.out)
      have HGd : Aside0 (w4.grownBy wr.drew (some g2)) := ⟨⟨HG.out.os, HG.out.tape, HG.out.output, HG.out.size, HG.out.block⟩⟩
      clear hz1 hf1 hb8 hy0' hx0 HO HL HG HB HS
      generalize wr.drew = V at hz1d hf1d hb8d hy0d HOd HLd HGd ⊢
      repeat still_step
      try refine wpStill_nil ?_
      go_wp2_with fail
      have HP := Kd.R_putg HOd.out ii (wrap64 (rdOf 0 cs ii + 1))
      have hO5 : (Kd.int .i64).R 3 (V.setCell ⟨g2, ii.toNat, none⟩ (.int .i64 (wrap64 (rdOf 0 cs ii + 1)))) w1.heap.size (fun _ => True) (.slice (some ⟨g2, 0, none⟩) n c2) (bumpW cs ii) := HP.1
      have hP2 : V.grownBy (V.setCell ⟨g2, ii.toNat, none⟩ (.int .i64 (wrap64 (rdOf 0 cs ii + 1)))) (some g2) := HP.2
      clear HP
      generalize (V.setCell ⟨g2, ii.toNat, none⟩ (.int .i64 (wrap64 (rdOf 0 cs ii + 1)))) = w5 at hO5 hP2 ⊢
      have HG5 : Aside0 (w4.grownBy w5 (some g2)) := ⟨grown_tr HGd.out hP2⟩
      have hL5 : (Kd.int .i64).R 3 w5 w3.heap.size (fun _ => True) (.slice (some ad0) 2 c0) [ii, kk] := Kd.R_mono (Kd.R_step (Kd.R_bound HLd.out) (fun k hk hlt => hP2.block k hlt (fun e => by have := hk.2.1; have := HG3.out.1; injection e with e; omega))) (fun _ _ => trivial)
      have hB5 : w5.heap[g3]? = some (.cells #[.slice (some ⟨g2, 0, none⟩) n c2] 24 (0, 0)) := (HG5.out.block g3 (Nat.lt_of_lt_of_le HG3.out.2.1 HB4.out.size) (fun e => by have := HG3.out.2.2; injection e with e; omega)).trans ((HB4.out.block g3 HG3.out.2.1).trans HK3.out)
      generalize bumpW cs ii = cs1 at hO5 hlb hcs
      obtain ⟨ad1, ea, hy1⟩ := Kd.at_int (Kd.R_reads' hL5).2.2 1 (by omega) (by simp)
      cases ea
      have hy1' : w5.cell? ⟨ad0.block, ad0.off + 1, none⟩ = some (.int .i64 kk) := hy1
      have hb9 : w5.cell? ⟨g3, 0, none⟩ = some (.slice (some ⟨g2, 0, none⟩) n c2) := blk_cell hB5 0
      obtain ⟨hz2, hf2⟩ := Kd.R_celln 0 hO5 kk Hk.out.1 Hk.out.2
      refine wp_region_still_tail 8 (by kernel_rfl) (by kernel_rfl) ?_
      simp only [List.take_succ_cons, List.take_zero, List.drop_succ_cons, List.drop_zero]
      rw [show ∀ w : World, ({ w with drawn := w.drawn + 1 } : World) = w.drew from fun _ => rfl]
      have hz2d : w5.drew.cell? ⟨g2, kk.toNat, none⟩ = some (.int .i64 (rdOf 0 cs1 kk)) := hz2
      have hf2d : w5.drew.frozen? ⟨g2, kk.toNat, none⟩ = false := hf2
      have hb9d : w5.drew.cell? ⟨g3, 0, none⟩ = some (.slice (some ⟨g2, 0, none⟩) n c2) := hb9
      have hy1d : w5.drew.cell? ⟨ad0.block, ad0.off + 1, none⟩ = some (.int .i64 kk) := hy1'
      have HO5d := Aside0.mk (Kd.R_drew hO5)
      have HG5d : Aside0 (w4.grownBy w5.drew (some g2)) := ⟨⟨HG5.out.os, HG5.out.tape, HG5.out.output, HG5.out.size, HG5.out.block⟩⟩
      clear hz2 hf2 hb9 hy1' hy1 hL5 hB5 hO5 HG5 hz1d hf1d hb8d hy0d HOd HLd HGd hP2
      generalize w5.drew = V2 at hz2d hf2d hb9d hy1d HO5d HG5d ⊢
      repeat still_step
      try refine wpStill_nil ?_
      go_wp2_with fail
      have HP := Kd.R_putg HO5d.out kk (wrap64 (rdOf 0 cs1 kk + 1))
      have hO6 : (Kd.int .i64).R 3 (V2.setCell ⟨g2, kk.toNat, none⟩ (.int .i64 (wrap64 (rdOf 0 cs1 kk + 1)))) w1.heap.size (fun _ => True) (.slice (some ⟨g2, 0, none⟩) n c2) (bumpW cs1 kk) := HP.1
      have hG6 := grown_tr HG5d.out HP.2
      clear HP
      go_roundw
      case rel => exact ⟨j + 1, by rw [hwj.out], ⟨by have := hlt'.out; omega⟩, ⟨by rw [hcs.out]; exact hO6⟩, ⟨hG6⟩⟩
      case measure => rw [hwj.out]; have := hlt'.out; simp [intOf]; omega
    · have hl : decide ((j : Int) < (ps.length : Int)) = false := decide_eq_false (by omega)
      obtain rfl : j = ps.length := by omega
      rw [List.take_length] at HO
      have hres : onesOf (talW (List.replicate n 0) ps) = (ints 0 n).filter (fun i => decide (rd (talW (List.replicate n 0) ps) i = 1)) := by
        unfold onesOf; rw [← (Kd.R_reads' HO.out).1]
      replace hres := Aside0.mk hres
      have hCt := (Kd.R_reads' HO.out).2.2
      rw [← (Kd.R_reads' HO.out).1] at hCt
      have hnw := numbersWith_calls 0 n ⟨by omega, by omega⟩ (by omega) 82 #[.pointer (some ⟨g3, 0, none⟩)] (enters_of Try.func82 (by kernel_rfl) rfl) (fun i => decide (rd (talW (List.replicate n 0) ps) i = 1)) wr (fun W' x hx0 hx1 hb' => end_closure W' ⟨g2, 0, none⟩ n c2 g3 _ (Kd.C_below hCt hb') ((hb'.cell (World.block_lt_of_cell? _ _ (blk_cell HB.out 0))).trans (blk_cell HB.out 0)) x hx0 (by omega))
      rw [Int.zero_add] at hnw
      have hsub : wrap64 ((n : Int) - 1) = (n : Int) - 1 := w64s (by omega) (by omega)
      have HBf : Aside0 (Below w.heap.size w wr) := ⟨below_step HB1.out ((below_step HB13.out HB4.out).grown HG.out (below_step HB13.out HB4.out).size (fun k hk => by have := Hgl.out.2.1; injection hk with hk; omega))⟩
      replace hnw := Aside0.mk hnw
      replace hsub := Aside0.mk hsub
      clear HO HG HB HS hg3l hnd hmk0 hmk1 hCt
      go_wp2_with fail
      (with_reducible refine hnw.out.mono ?_)
      rintro e w9 ⟨v9, rfl, hR9, hb9⟩
      have HR9 := Aside0.mk hR9
      have HB9 := Aside0.mk hb9
      clear hR9 hb9
      go_wp2_with fail
      go_ret2
      exact ⟨_, rfl, by rw [hres.out]; exact Kd.R_lower HR9.out HBf.out.size, below_step HBf.out HB9.out⟩
def impl_EndRegions.f (a0 : Int) (l1 : List S64) : Option (List Int × Bool) := if l1.length ≤ 1048576 then some (endsRes a0 l1) else none
set_option maxHeartbeats 1000000 in
theorem impl_EndRegions.calls (a0 : Int) (A1 : Option Addr) (c1 : Nat) (l1 : List S64) (r1 : List Int) (r2 : Bool) (w : World) (hr1 : Kd.C k64 w A1 l1.length l1) (hc1 : l1.length ≤ c1) (h : impl_EndRegions.f a0 l1 = some (r1, r2)) :
    Calls Try.prog 30 #[.int .i64 a0, .slice A1 l1.length c1] w fun e w' => ∃ v0_ : Value, e = .returned (.tuple #[v0_, .bool r2]) ∧ Kd.R (Kd.int .i64) 3 w' w.heap.size (fun _ => True) v0_ r1 ∧ Below w.heap.size w w' := by
  unfold impl_EndRegions.f at h
  by_cases hl : l1.length ≤ 1048576
  · rw [if_pos hl] at h
    cases hp : plane a0 l1 with
    | true =>
      have h1 := implEnd_true a0 A1 c1 l1 w hr1 hc1 hl hp
      have h2 : (endsRes a0 l1).2 = true := by unfold endsRes; rw [if_pos hp]
      rw [Option.some.inj h] at h1 h2
      rw [show r2 = true from h2]
      exact h1
    | false =>
      have h2 : endsRes a0 l1 = ([], false) := by unfold endsRes; rw [if_neg (by rw [hp]; decide)]
      rw [h2] at h
      injection h with h
      injection h with e1 e2
      subst e1 e2
      have h59 := impl_planeRegions.calls a0 A1 c1 l1 [] false _ hr1 hc1 (by unfold impl_planeRegions.f; rw [if_pos (by omega), hp]; rfl)
      replace h59 := Aside0.mk h59
      clear hr1 hc1 hl hp h2
      go_enter Try.func30, Try.ntmps30
      go_wp2_with (go_at_call 59; refine h59.out.mono ?_; rintro e w' ⟨v0, rfl, _, hb⟩)
      go_ret2
      exact ⟨_, rfl, Kd.R_nil _ _ _ _ _, hb⟩
  · rw [if_neg hl] at h; cases h
end Go.Proofs.Yteeghncofacmhaa.Q
end
section
/- spec.EndRegions by hand. -/
namespace Go.Proofs.Yteeghncofacmhaa.Q
open Go.RowKit Go.Proofs.YteeghncofacmhaaW.PrintWords Go.Proofs.YteeghncofacmhaaW.PrintLast Go.Proofs.YteeghncofacmhaaW.PrintMore
attribute [local go_sem] max2_int min2_int max_two min_two max_three min_three max_four min_four
set_option linter.unusedVariables false
set_option linter.unusedSimpArgs false
theorem ones_snoc (cs : List Int) (i : Nat) : (ints 0 (i + 1)).filter (fun i => decide (rd cs i = 1)) = (ints 0 i).filter (fun i => decide (rd cs i = 1)) ++ (if rd cs (i : Int) = 1 then [(i : Int)] else []) := by
  rw [ints_snoc, List.filter_append, Int.zero_add]
  congr 1
  by_cases h1 : rd cs (i : Int) = 1 <;> simp [h1]
theorem ones_le (cs : List Int) (i : Nat) : ((ints 0 i).filter (fun i => decide (rd cs i = 1))).length ≤ i := by
  have := List.length_filter_le (fun i => decide (rd cs i = 1)) (ints 0 i)
  simpa [ints] using this
set_option maxHeartbeats 4000000 in
set_option maxRecDepth 100000 in
theorem specEnd_true (a0 : Int) (A : Option Addr) (c : Nat) (l : List Ch) (w : World) (hr : Kd.C k64 w A l.length l) (hc : l.length ≤ c) (hl : l.length ≤ 1048576) (hp : plane a0 l = true) :
    Calls Try.prog 29 #[.int .i64 a0, .slice A l.length c] w fun e w' => ∃ v0_ : Value, e = .returned (.tuple #[v0_, .bool true]) ∧ Kd.R (Kd.int .i64) 3 w' w.heap.size (fun _ => True) v0_ (endsRes a0 l).1 ∧ Below w.heap.size w w' := by
  obtain ⟨k, hk⟩ := rePlane_ev a0 l (by omega)
  have hpl := spec_rePlane.calls k a0 A c l _ w hr hc (hk k (Nat.le_refl _))
  rw [hp] at hpl
  have hl40 := good_len (plane_good hp)
  have hfl := faces_length a0 l
  have hsm := faces_small hp
  have hnx : ∀ W, Below w.heap.size w W → _ := fun W hW => reNext_calls a0 A c l (faces a0 l) W (Kd.C_below hr hW) hc (reList_eq hp) (by omega) (fun x hx => by have := hsm x hx; omega)
  have hres : (endsRes a0 l).1 = onesOf (talW (List.replicate (l.length + 1) 0) (reNextOf (faces a0 l))) := by
    unfold endsRes nextRes
    rw [if_pos hp, if_pos hp]
  rw [hres]
  clear hres
  have hpl2 : (reNextOf (faces a0 l)).length ≤ 1000000 := by
    have h2 : (reNextOf (faces a0 l)).length ≤ (faces a0 l).length * (faces a0 l).length := pairsBy_len _ _ _
    rw [hfl] at h2
    have h3 : (l.length + 1) * (l.length + 1) ≤ 41 * 41 := Nat.mul_le_mul (by omega) (by omega)
    omega
  have hpat : ∀ r ∈ reNextOf (faces a0 l), ∃ i k : Nat, r = [(i : Int), (k : Int)] ∧ i < k ∧ k < l.length + 1 := fun r hr => by
    have := pairsBy_at (n := (faces a0 l).length) (Nat.le_refl _) hr
    rw [hfl] at this
    exact this
  generalize reNextOf (faces a0 l) = ps at hnx hpl2 hpat ⊢
  have hw1 : wrap64 (1 + (l.length : Int)) = ((l.length + 1 : Nat) : Int) := by rw [w64s (by omega) (by omega)]; omega
  generalize hn : l.length + 1 = n at hpat hw1 ⊢
  have hn1 : 1 ≤ n := by omega
  have hn2 : n ≤ 41 := by omega
  have hmk0 : (0 : Int) ≤ wrap64 (1 + (l.length : Int)) := by omega
  have hmk1 : (wrap64 (1 + (l.length : Int))).toNat * 8 ≤ 281474976710656 := by omega
  replace hpl := Aside0.mk hpl
  replace hnx := Aside0.mk hnx
  replace hpat := Aside0.mk hpat
  replace hn := Aside0.mk hn
  clear hr hc hl hp hk hfl hsm hl40
  generalize hll : l.length = ll at hpl hnx hw1 hmk0 hmk1 ⊢
  replace hll := Aside0.mk hll
  have hw3 := Aside0.mk hw1
  clear hw1
  replace hmk0 := Aside0.mk hmk0
  replace hmk1 := Aside0.mk hmk1
  go_enter Try.func29, Try.ntmps29
  go_wp2_with fail
  (with_reducible refine hpl.out.mono ?_)
  rintro e w1 ⟨rfl, hb⟩
  have HB1 := Aside0.mk hb
  clear hb
  go_wp2_with ((with_reducible refine gate_dst (N := 19) rfl ?_); refine Kd.R_make (Kd.int .i64) (w0 := w1) w1.heap.size 3 rfl (N := 19) rfl 24 _ _ rfl (wrap64 (1 + (ll : Int))) rfl rfl Try.underlying24 (.int .i64 0) 8 info3 rfl (by decide) (by decide) 0 (ok := fun _ => True) (okp := fun _ => True) rfl (fun _ hk => hk) trivial hmk0.out hmk1.out (Below.refl _ _) (Nat.le_refl _) ?_; intro v2 w2 ho2 hb2 hg2 hnew2; rw [hw3.out, Int.toNat_natCast] at ho2; obtain ⟨g2, c2, e2, hg2b, hg2l, hg2c⟩ := Kd.R_form ho2 (by rw [List.length_replicate]; exact hn1); rw [List.length_replicate] at e2; subst e2; have HO3 := Aside0.mk ho2; have HB13 := Aside0.mk hb2; have Hgl := Aside0.mk (And.intro hg2l hg2b); clear ho2 hb2 hg2 hnew2 hg2b hg2l hg2c)
  have hcall := Aside0.mk (hnx.out w2 (below_step HB1.out HB13.out))
  (with_reducible refine hcall.out.mono ?_)
  rintro e w4 ⟨v4, rfl, hS4, hb4⟩
  obtain ⟨A4, c4, rfl⟩ := Kd.S_slice hS4
  have HS4 := Aside0.mk hS4
  have HB4 := Aside0.mk hb4
  clear hS4 hb4
  have O4 : Aside0 ((Kd.int .i64).R 3 w4 w1.heap.size (fun _ => True) (.slice (some ⟨g2, 0, none⟩) n c2) (talW (List.replicate n 0) (ps.take 0))) := ⟨Kd.R_below HO3.out HB4.out⟩
  have G4 : Aside0 (w4.grownBy w4 (some g2)) := ⟨⟨rfl, rfl, rfl, Nat.le_refl _, fun _ _ _ => rfl⟩⟩
  go_wp2_with fail
  go_loopw [24] (fun v24 wr => ∃ (j : Nat), v24 = .int .i64 (j : Int) ∧ Aside0 (j ≤ ps.length) ∧ Aside0 ((Kd.int .i64).R 3 wr w1.heap.size (fun _ => True) (.slice (some ⟨g2, 0, none⟩) n c2) (talW (List.replicate n 0) (ps.take j))) ∧ Aside0 (w4.grownBy wr (some g2))) (fun v24 _ => ps.length - (intOf v24).toNat)
  case atStart => exact ⟨0, rfl, ⟨Nat.zero_le _⟩, O4, G4⟩
  case round =>
    clear O4 G4
    obtain ⟨j, rfl, hj, HO, HG⟩ := hrel
    replace hj := hj.out
    have HS : Aside0 (Kd.S (Kd.slice 3 (Kd.int .i64)) 24 wr w2.heap.size (fun _ => True) (.slice A4 ps.length c4) ps) := ⟨Kd.S_mono (Kd.S_step (Kd.S_bound HS4.out) (fun k hk hlt => HG.out.block k hlt (fun e => by have := hk.2.1; have := Hgl.out.1; injection e with e; omega))) (fun _ _ => trivial)⟩
    by_cases hlt : j < ps.length
    · have hl : decide ((j : Int) < (ps.length : Int)) = true := decide_eq_true (by omega)
      obtain ⟨i, k, hik, hi1, hi2⟩ := hpat.out ps[j] (List.getElem_mem hlt)
      have hrd : rd_L4 ps (j : Int) = [(i : Int), (k : Int)] := by rw [rdL4_at hlt]; exact hik
      obtain ⟨ad, A0, c0, ea, hx0, hl0, hC0⟩ := at_L4 (Kd.S_reads' HS.out).2.2 (j : Int) (by omega) (by omega)
      cases ea
      obtain ⟨ce, hce, hMe, hcc⟩ := Kd.S_get HS.out [] (j : Int) (by omega) (by omega)
      obtain ⟨ve, rfl, ge⟩ := hMe
      have hv := hcc 0 _ rfl
      rw [Nat.add_zero, show ((Kd.slice 3 (Kd.int .i64))).sz = 1 from rfl, Nat.mul_one] at hv
      replace hv := Option.some.inj (hv.symm.trans hx0)
      rw [hv] at ge
      have hge : (Kd.int .i64).R 3 wr w2.heap.size (fun _ => True) (.slice A0 (rd_L4 ps (j : Int)).length c0) (rd_L4 ps (j : Int)) := Kd.R_mono ge (fun _ _ => trivial)
      clear hv ge hcc hce
      rw [Int.toNat_natCast] at hx0
      rw [hrd] at hx0 hl0 hC0 hge
      obtain ⟨ad0, ea, hy0⟩ := Kd.at_int hC0 0 (by omega) (by simp)
      cases ea
      have HL := Aside0.mk hge
      clear hge hC0 hl0 hrd
      have hy0' : wr.cell? ad0 = some (.int .i64 (i : Int)) := by rw [show (0 : Int).toNat = 0 from rfl, Addr.add_zero'] at hy0; exact hy0
      clear hy0
      have hcs : Aside0 (talW (List.replicate n 0) (ps.take (j + 1)) = bumpW (bumpW (talW (List.replicate n 0) (ps.take j)) (i : Int)) (k : Int)) := ⟨by
        rw [List.take_succ_eq_append_getElem hlt, hik]
        unfold talW
        rw [List.foldl_append]
        rfl⟩
      generalize talW (List.replicate n 0) (ps.take j) = cs at HO hcs
      have hlen : Aside0 (n = cs.length) := ⟨(Kd.R_reads' HO.out).1⟩
      have hlb : Aside0 ((bumpW cs (i : Int)).length = n) := ⟨by rw [bumpW_len]; exact hlen.out.symm⟩
      have hi0 : (0 : Int) ≤ (i : Int) := by omega
      have hi3 : (i : Int) < (n : Int) := by omega
      have hk0 : (0 : Int) ≤ (k : Int) := by omega
      have hk3 : (k : Int) < (n : Int) := by omega
      have hwj : wrap64 ((j : Int) + 1) = ((j + 1 : Nat) : Int) := by rw [w64s (by omega) (by omega)]; omega
      replace hwj := Aside0.mk hwj
      have hlt' := Aside0.mk hlt
      clear hik hi1 hi2
      generalize (i : Int) = ii at HL hy0' hcs hi0 hi3 hlb
      generalize (k : Int) = kk at HL hcs hk0 hk3
      obtain ⟨hz1, hf1⟩ := Kd.R_celln 0 HO.out ii hi0 hi3
      have Hi := Aside0.mk (And.intro hi0 hi3)
      have Hk := Aside0.mk (And.intro hk0 hk3)
      have p1 := eq_true hi0
      have q1 := eq_true hi3
      have p2 := eq_true hk0
      have q2 := eq_true hk3
      clear hi0 hi3 hk0 hk3 hj hpl2
      have HP := Kd.R_putg HO.out ii (wrap64 (rdOf 0 cs ii + 1))
      have hO5 : (Kd.int .i64).R 3 (wr.setCell ⟨g2, ii.toNat, none⟩ (.int .i64 (wrap64 (rdOf 0 cs ii + 1)))) w1.heap.size (fun _ => True) (.slice (some ⟨g2, 0, none⟩) n c2) (bumpW cs ii) := HP.1
      have hP2 : wr.grownBy (wr.setCell ⟨g2, ii.toNat, none⟩ (.int .i64 (wrap64 (rdOf 0 cs ii + 1)))) (some g2) := HP.2
      replace hO5 := Aside0.mk hO5
      replace hP2 := Aside0.mk hP2
      clear HP HS
      go_wp2_with (first | ((with_reducible refine gate_store (t := 3) (p := 35) rfl ?_); refine store_event (t := 3) (p := 35) (v := ?vo_) (w1 := (wr.setCell ⟨g2, ii.toNat, none⟩ (.int .i64 (wrap64 (rdOf 0 cs ii + 1))))) ?hg ?ho ?hn ?hr ?_; (case ho => rfl); (case hg => rfl); (case hn => rfl); (case hr => first | (go_simp; done) | (go_simp; rfl)); intro w5 hw5; rw [← hw5] at hO5 hP2; have HG5 : Aside0 (w4.grownBy w5 (some g2)) := ⟨grown_tr HG.out hP2.out⟩; have hL5 : (Kd.int .i64).R 3 w5 w2.heap.size (fun _ => True) (.slice (some ad0) 2 c0) [ii, kk] := Kd.R_mono (Kd.R_step (Kd.R_bound HL.out) (fun k hk hlt => hP2.out.block k hlt (fun e => by have := hk.2.1; have := Hgl.out.1; injection e with e; omega))) (fun _ _ => trivial); obtain ⟨hz2, hf2⟩ := Kd.R_celln 0 hO5.out kk Hk.out.1 Hk.out.2; obtain ⟨ad1, ea, hy1⟩ := Kd.at_int (Kd.R_reads' hL5).2.2 1 (by omega) (by simp); cases ea; have hy1' : w5.cell? ⟨ad0.block, ad0.off + 1, none⟩ = some (.int .i64 kk) := hy1; have HP6 := Aside0.mk (Kd.R_putg hO5.out kk (wrap64 (rdOf 0 (bumpW cs ii) kk + 1))); clear hy1 hL5 hw5 hz1 hf1 hy0' hx0 hP2 HO HG) | ((with_reducible refine gate_store (t := 3) (p := 43) rfl ?_); refine store_event (t := 3) (p := 43) (v := ?vo_2) (w1 := (w5.setCell ⟨g2, kk.toNat, none⟩ (.int .i64 (wrap64 (rdOf 0 (bumpW cs ii) kk + 1))))) ?hg2 ?ho2 ?hn2 ?hr2 ?_; (case ho2 => rfl); (case hg2 => rfl); (case hn2 => rfl); (case hr2 => first | (go_simp; done) | (go_simp; rfl)); intro w6 hw6; have hO6 : Aside0 ((Kd.int .i64).R 3 w6 w1.heap.size (fun _ => True) (.slice (some ⟨g2, 0, none⟩) n c2) (bumpW (bumpW cs ii) kk)) := ⟨by rw [hw6]; exact HP6.out.1⟩; have hG6 : Aside0 (w4.grownBy w6 (some g2)) := ⟨by rw [hw6]; exact grown_tr HG5.out HP6.out.2⟩; clear hw6 HP6 hz2 hf2 hy1' HG5 hO5))
      go_roundw
      case rel => exact ⟨j + 1, by rw [hwj.out], ⟨by have := hlt'.out; omega⟩, ⟨by rw [hcs.out]; exact hO6.out⟩, hG6⟩
      case measure => rw [hwj.out]; have := hlt'.out; simp [intOf]; omega
    · have hl : decide ((j : Int) < (ps.length : Int)) = false := decide_eq_false (by omega)
      obtain rfl : j = ps.length := by omega
      rw [List.take_length] at HO
      have hres : Aside0 (onesOf (talW (List.replicate n 0) ps) = (ints 0 n).filter (fun i => decide (rd (talW (List.replicate n 0) ps) i = 1))) := ⟨by
        unfold onesOf; rw [← (Kd.R_reads' HO.out).1]⟩
      have hCt := (Kd.R_reads' HO.out).2.2
      rw [← (Kd.R_reads' HO.out).1] at hCt
      have HCt := Aside0.mk hCt
      have HBf : Aside0 (Below w.heap.size w wr) := ⟨below_step HB1.out ((below_step HB13.out HB4.out).grown HG.out (below_step HB13.out HB4.out).size (fun k hk => by have := Hgl.out.2; injection hk with hk; omega))⟩
      generalize hct : talW (List.replicate n 0) ps = cs at HO hres
      replace hct := Aside0.mk hct
      have HOc := HO
      clear HO HG HS hCt HCt
      go_wp2_with fail
      clear hl
      obtain ⟨wl, rfl⟩ : ∃ wl : World, wl = wr := ⟨_, rfl⟩
      go_loopw [9, 47] (fun v9 v47 wr => ∃ (q : Nat), v47 = .int .i64 (q : Int) ∧ Aside0 (q ≤ n) ∧ Aside0 ((Kd.int .i64).R 3 wr wl.heap.size (fun _ => True) v9 ((ints 0 q).filter (fun i => decide (rd cs i = 1)))) ∧ Aside0 (Below wl.heap.size wl wr)) (fun _ v47 _ => n - (intOf v47).toNat)
      case atStart => exact ⟨0, rfl, ⟨Nat.zero_le _⟩, ⟨Kd.R_nil _ _ _ _ _⟩, ⟨Below.refl _ _⟩⟩
      case round =>
        obtain ⟨q, rfl, hq, HO, HB⟩ := hrel
        replace hq := hq.out
        obtain ⟨wi, rfl⟩ : ∃ wi : World, wi = wr := ⟨_, rfl⟩
        by_cases hlt : q < n
        · have hl : decide ((q : Int) < (n : Int)) = true := decide_eq_true (by omega)
          have hx : wi.cell? ⟨g2, (q : Int).toNat, none⟩ = some (.int .i64 (rd cs (q : Int))) := (Kd.R_celln 0 (Kd.R_below HOc.out HB.out) (q : Int) (by omega) (by omega)).1
          have hsn := ones_snoc cs q
          have hfl := ones_le cs q
          have hfl2 : ((ints 0 q).filter (fun i => decide (rd cs i = 1))).length ≤ 1000000 := by omega
          clear hfl
          have hwj : wrap64 ((q : Int) + 1) = ((q + 1 : Nat) : Int) := by rw [w64s (by omega) (by omega)]; omega
          have p1 := eq_true (show (0 : Int) ≤ (q : Int) by omega)
          have q1 := eq_true (show (q : Int) < (n : Int) by omega)
          by_cases h1 : rd cs (q : Int) = 1
          · rw [if_pos h1] at hsn
            have hb1 : (rd cs (q : Int) == 1) = true := by simp [h1]
            generalize (ints 0 q).filter (fun i => decide (rd cs i = 1)) = fl at HO hsn hfl2
            generalize rd cs (q : Int) = z at hx hb1
            replace hsn := Aside0.mk hsn
            clear h1
            generalize hqq : (q : Int) = qq at hx hl hwj p1 q1 hsn
            replace hqq := Aside0.mk hqq
            replace hwj := Aside0.mk hwj
            have hb1' : (z == 1) = true := hb1
            go_wp2_with (((with_reducible refine gate_builtin (b := .append) (xs := #[.tmp 54, .tmp 56]) rfl ?_); at_builtin; refine Kd.R_append (Kd.int .i64) (w0 := wl) wl.heap.size rfl (.tmp 54) (.tmp 56) 24 3 (.int .i64 0) 8 rfl Try.underlying24 info3 rfl (by decide) (by omega) _ fl qq [.int .i64 qq] (fun _ => True) (fun _ => False) rfl rfl rfl (fun _ hk => hk.elim) (fun _ _ => trivial) HO.out HB.out HB.out.size ?aL ?_; (case aL => omega); intro v1 w1 ho1 hb1 hg1 ha1; have HO1 := Aside0.mk ho1; have HB1 := Aside0.mk hb1; clear ho1 hb1 hg1 ha1))
            go_roundw
            case rel => exact ⟨q + 1, by rw [hwj.out], ⟨by omega⟩, ⟨by rw [hsn.out]; exact HO1.out⟩, HB1⟩
            case measure => rw [hwj.out, ← hqq.out]; simp [intOf]; omega
          · rw [if_neg h1, List.append_nil] at hsn
            have hb1 : (rd cs (q : Int) == 1) = false := by simp [h1]
            rw [← hsn] at HO
            clear h1 hsn hfl2
            generalize rd cs (q : Int) = z at hx hb1
            generalize hqq : (q : Int) = qq at hx hl hwj p1 q1
            replace hqq := Aside0.mk hqq
            replace hwj := Aside0.mk hwj
            go_wp2_with fail
            go_roundw
            case rel => exact ⟨q + 1, by rw [hwj.out], ⟨by omega⟩, HO, HB⟩
            case measure => rw [hwj.out, ← hqq.out]; simp [intOf]; omega
        · have hl : decide ((q : Int) < (n : Int)) = false := decide_eq_false (by omega)
          obtain rfl : q = n := by omega
          go_wp2_with fail
          go_ret2
          exact ⟨u9, rfl, by rw [hct.out, hres.out]; exact Kd.R_lower HO.out HBf.out.size, below_step HBf.out HB.out⟩
def spec_EndRegions.f (a0 : Int) (l1 : List S64) : Option (List Int × Bool) := if l1.length ≤ 1048576 then some (endsRes a0 l1) else none
set_option maxHeartbeats 1000000 in
theorem spec_EndRegions.calls (a0 : Int) (A1 : Option Addr) (c1 : Nat) (l1 : List S64) (r1 : List Int) (r2 : Bool) (w : World) (hr1 : Kd.C k64 w A1 l1.length l1) (hc1 : l1.length ≤ c1) (h : spec_EndRegions.f a0 l1 = some (r1, r2)) :
    Calls Try.prog 29 #[.int .i64 a0, .slice A1 l1.length c1] w fun e w' => ∃ v0_ : Value, e = .returned (.tuple #[v0_, .bool r2]) ∧ Kd.R (Kd.int .i64) 3 w' w.heap.size (fun _ => True) v0_ r1 ∧ Below w.heap.size w w' := by
  unfold spec_EndRegions.f at h
  by_cases hl : l1.length ≤ 1048576
  · rw [if_pos hl] at h
    cases hp : plane a0 l1 with
    | true =>
      have h1 := specEnd_true a0 A1 c1 l1 w hr1 hc1 hl hp
      have h2 : (endsRes a0 l1).2 = true := by unfold endsRes; rw [if_pos hp]
      rw [Option.some.inj h] at h1 h2
      rw [show r2 = true from h2]
      exact h1
    | false =>
      have h2 : endsRes a0 l1 = ([], false) := by unfold endsRes; rw [if_neg (by rw [hp]; decide)]
      rw [h2] at h
      injection h with h
      injection h with e1 e2
      subst e1 e2
      obtain ⟨k, hk⟩ := rePlane_ev a0 l1 (by omega)
      have hpl := spec_rePlane.calls k a0 A1 c1 l1 _ w hr1 hc1 (hk k (Nat.le_refl _))
      rw [hp] at hpl
      replace hpl := Aside0.mk hpl
      clear hr1 hc1 hl hp h2 hk
      go_enter Try.func29, Try.ntmps29
      go_wp2_with (go_at_call 56; refine hpl.out.mono ?_; rintro e w' ⟨rfl, hb⟩)
      go_ret2
      exact ⟨_, rfl, Kd.R_nil _ _ _ _ _, hb⟩
  · rw [if_neg hl] at h; cases h
end Go.Proofs.Yteeghncofacmhaa.Q
end
section
namespace Go.Proofs.Yteeghncofacmhaa.Q
open Go.RowKit Go.Proofs.YteeghncofacmhaaW.PrintWords Go.Proofs.YteeghncofacmhaaW.PrintLast Go.Proofs.YteeghncofacmhaaW.PrintMore
attribute [local go_sem] max2_int min2_int max_two min_two max_three min_three max_four min_four   -- for this text's walks alone
set_option linter.unusedVariables false
set_option linter.unusedSimpArgs false
/-! ### laws_FnExactEndRegions: function 7 -/
mutual
def laws_FnExactEndRegions.j0 : Nat → Int → List (S66) → List Int → Bool → List (S64) → List Int → Bool → Bool → Option (Bool)
  | 0, _, _, _, _, _, _, _, _ => none
  | k + 1, x0, x1, x6, x7, x8, x9, x10, x44 => if x44 = true then (some false) else ((laws_toChordS.f k x1).bind fun t117 => ((laws_eqChordS.f k x8 t117).bind fun t120 => (if t120 = true then ((laws_markChordS.f k x8 1).bind fun bt121 => (if bt121.1 < 0 then (laws_FnExactEndRegions.j1 k x0 x1 x6 x7 x9 true) else ((laws_eqIntS.f k x9 x6).bind fun t123 => (if t123 = true then (laws_FnExactEndRegions.j1 k x0 x1 x6 x7 x9 (x10 != x7)) else (laws_FnExactEndRegions.j1 k x0 x1 x6 x7 x9 true))))) else (some false))))
def laws_FnExactEndRegions.j1 : Nat → Int → List (S66) → List Int → Bool → List Int → Bool → Option (Bool)
  | 0, _, _, _, _, _, _ => none
  | k + 1, x0, x1, x6, x7, x9, x65 => if x65 = true then (some false) else ((laws_markIntS.f k x9 1).bind fun bt124 => ((laws_heldIntS.f k bt124.2 1).bind fun t126 => (if t126 < 0 then (some false) else (if t126 = bt124.1 then ((laws_toChordS.f k x1).bind fun t127 => ((impl_EndRegions.f x0 t127).bind fun bt130 => ((laws_eqIntS.f k bt130.1 x6).bind fun t134 => (if t134 = true then (laws_FnExactEndRegions.j2 k bt124.2 bt124.1 (bt130.2 != x7)) else (laws_FnExactEndRegions.j2 k bt124.2 bt124.1 true))))) else (some false)))))
def laws_FnExactEndRegions.j2 : Nat → List Int → Int → Bool → Option (Bool)
  | 0, _, _, _ => none
  | k + 1, x9, x12, x92 => if x92 = true then (some false) else ((laws_heldIntS.f k x9 1).bind fun t135 => (if t135 < 0 then (some false) else (if t135 = x12 then (some true) else (some false))))
end
def laws_FnExactEndRegions.f (k : Nat) (a0 : Int) (l1 : List (S66)) : Option (Bool) := (laws_szChordS.f l1 1048576).bind fun t101 => (if t101 < 0 then (some true) else ((laws_toChordS.f k l1).bind fun t102 => ((spec_EndRegions.f a0 t102).bind fun bt105 => ((laws_toChordS.f k l1).bind fun t109 => ((impl_EndRegions.f a0 t109).bind fun bt112 => ((laws_eqIntS.f k bt112.1 bt105.1).bind fun t116 => (if t116 = true then (laws_FnExactEndRegions.j0 k a0 l1 bt105.1 bt105.2 t109 bt112.1 bt112.2 (bt112.2 != bt105.2)) else (laws_FnExactEndRegions.j0 k a0 l1 bt105.1 bt105.2 t109 bt112.1 bt112.2 true))))))))
set_option maxHeartbeats 8000000 in
set_option maxRecDepth 100000 in
theorem laws_FnExactEndRegions.calls (k : Nat) (a0 : Int) (A1 : Option Addr) (c1 : Nat) (l1 : List (S66)) (r : Bool) (w : World) (hr1 : Kd.C k66 w A1 l1.length l1) (hc1 : l1.length ≤ c1) (h : laws_FnExactEndRegions.f k a0 l1 = some r) :
    Calls Try.prog 7 #[.int .i64 a0, .slice A1 l1.length c1] w fun e w' => e = .returned (.bool r) ∧ Below w.heap.size w w' := by
  have HR1 := Aside0.mk hr1
  have HC1 := Aside0.mk hc1
  clear hr1 hc1
  have HB := Aside0.mk (Below.refl w.heap.size w)
  have H : ((laws_szChordS.f l1 1048576).bind fun t101 => (if t101 < 0 then (some true) else ((laws_toChordS.f k l1).bind fun t102 => ((spec_EndRegions.f a0 t102).bind fun bt105 => ((laws_toChordS.f k l1).bind fun t109 => ((impl_EndRegions.f a0 t109).bind fun bt112 => ((laws_eqIntS.f k bt112.1 bt105.1).bind fun t116 => (if t116 = true then (laws_FnExactEndRegions.j0 k a0 l1 bt105.1 bt105.2 t109 bt112.1 bt112.2 (bt112.2 != bt105.2)) else (laws_FnExactEndRegions.j0 k a0 l1 bt105.1 bt105.2 t109 bt112.1 bt112.2 true))))))))) = some r := h
  clear h
  replace H := Option.bind_eq_some_iff.mp H
  obtain ⟨t101, A30, H⟩ := H
  replace H : (if t101 < 0 then (some true) else ((laws_toChordS.f k l1).bind fun t102 => ((spec_EndRegions.f a0 t102).bind fun bt105 => ((laws_toChordS.f k l1).bind fun t109 => ((impl_EndRegions.f a0 t109).bind fun bt112 => ((laws_eqIntS.f k bt112.1 bt105.1).bind fun t116 => (if t116 = true then (laws_FnExactEndRegions.j0 k a0 l1 bt105.1 bt105.2 t109 bt112.1 bt112.2 (bt112.2 != bt105.2)) else (laws_FnExactEndRegions.j0 k a0 l1 bt105.1 bt105.2 t109 bt112.1 bt112.2 true)))))))) = some r := H
  have A3 := Aside0.mk A30
  clear A30
  by_cases c4 : t101 < 0
  · rw [if_pos c4] at H
    have c4b0 : decide (t101 < 0) = true := decide_eq_true c4
    clear c4
    obtain rfl := Option.some.inj H
    go_enter Try.func7, Try.ntmps7
    go_wp2_with (first | ((with_reducible refine gate_callee (f := 10) rfl ?_); refine goesL_ (some 18) rfl rfl Try.func10 (by kernel_rfl) rfl #[.slice A1 l1.length c1, .int .i64 1048576] rfl (by (try simp only [List.map_toArray, List.map_cons, List.map_nil]); first | done | rfl | (simp only [List.length_drop, List.length_take]; rfl)) ?_; (with_reducible refine (laws_szChordS.calls _ _ l1 1048576 t101 _ ?side1 ?side2 A3.out).mono ?_); (case side1 => repeat (first | exact HR1.out | (with_reducible refine Kd.C_alloc ?_ _) | (with_reducible refine Kd.C_drewN ?_ _) | (with_reducible refine Kd.C_drew ?_))); (case side2 => exact HC1.out); rintro e w' ⟨rfl, ⟨nd, rfl⟩⟩; refine ⟨_, rfl, ?_⟩))
    go_ret
    exact ⟨by first | rfl | (simp [errW_none, errW_some] <;> rfl) | (simp [*, errW_none, errW_some] <;> rfl), by repeat (first | (with_reducible first | exact HB.out | apply below_alloc | apply pw_below_drewN | apply below_drew1) | exact HB.out)⟩
  · rw [if_neg c4] at H
    have c4b0 : decide (t101 < 0) = false := decide_eq_false c4
    clear c4
    replace H := Option.bind_eq_some_iff.mp H
    obtain ⟨t102, A50, H⟩ := H
    replace H : ((spec_EndRegions.f a0 t102).bind fun bt105 => ((laws_toChordS.f k l1).bind fun t109 => ((impl_EndRegions.f a0 t109).bind fun bt112 => ((laws_eqIntS.f k bt112.1 bt105.1).bind fun t116 => (if t116 = true then (laws_FnExactEndRegions.j0 k a0 l1 bt105.1 bt105.2 t109 bt112.1 bt112.2 (bt112.2 != bt105.2)) else (laws_FnExactEndRegions.j0 k a0 l1 bt105.1 bt105.2 t109 bt112.1 bt112.2 true)))))) = some r := H
    have A5 := Aside0.mk A50
    clear A50
    replace H := Option.bind_eq_some_iff.mp H
    obtain ⟨⟨t105, t106⟩, A60, H⟩ := H
    replace H : ((laws_toChordS.f k l1).bind fun t109 => ((impl_EndRegions.f a0 t109).bind fun bt112 => ((laws_eqIntS.f k bt112.1 t105).bind fun t116 => (if t116 = true then (laws_FnExactEndRegions.j0 k a0 l1 t105 t106 t109 bt112.1 bt112.2 (bt112.2 != t106)) else (laws_FnExactEndRegions.j0 k a0 l1 t105 t106 t109 bt112.1 bt112.2 true))))) = some r := H
    have A6 := Aside0.mk A60
    clear A60
    replace H := Option.bind_eq_some_iff.mp H
    obtain ⟨t109, A70, H⟩ := H
    replace H : ((impl_EndRegions.f a0 t109).bind fun bt112 => ((laws_eqIntS.f k bt112.1 t105).bind fun t116 => (if t116 = true then (laws_FnExactEndRegions.j0 k a0 l1 t105 t106 t109 bt112.1 bt112.2 (bt112.2 != t106)) else (laws_FnExactEndRegions.j0 k a0 l1 t105 t106 t109 bt112.1 bt112.2 true)))) = some r := H
    have A7 := Aside0.mk A70
    clear A70
    replace H := Option.bind_eq_some_iff.mp H
    obtain ⟨⟨t112, t113⟩, A80, H⟩ := H
    replace H : ((laws_eqIntS.f k t112 t105).bind fun t116 => (if t116 = true then (laws_FnExactEndRegions.j0 k a0 l1 t105 t106 t109 t112 t113 (t113 != t106)) else (laws_FnExactEndRegions.j0 k a0 l1 t105 t106 t109 t112 t113 true))) = some r := H
    have A8 := Aside0.mk A80
    clear A80
    have HC9 := Aside0.mk H
    clear H
    go_enter Try.func7, Try.ntmps7
    go_upto_region 8 with (first | ((with_reducible refine gate_callee (f := 10) rfl ?_); refine goesL_ (some 18) rfl rfl Try.func10 (by kernel_rfl) rfl #[.slice A1 l1.length c1, .int .i64 1048576] rfl (by (try simp only [List.map_toArray, List.map_cons, List.map_nil]); first | done | rfl | (simp only [List.length_drop, List.length_take]; rfl)) ?_; (with_reducible refine (laws_szChordS.calls _ _ l1 1048576 t101 _ ?side1 ?side2 A3.out).mono ?_); (case side1 => repeat (first | exact HR1.out | (with_reducible refine Kd.C_alloc ?_ _) | (with_reducible refine Kd.C_drewN ?_ _) | (with_reducible refine Kd.C_drew ?_))); (case side2 => exact HC1.out); rintro e w' ⟨rfl, ⟨nd, rfl⟩⟩; refine ⟨_, rfl, ?_⟩) | ((with_reducible refine gate_callee (f := 12) rfl ?_); refine goesL_ (some 24) rfl rfl Try.func12 (by kernel_rfl) rfl #[.slice A1 l1.length c1] rfl (by (try simp only [List.map_toArray, List.map_cons, List.map_nil]); first | done | rfl | (simp only [List.length_drop, List.length_take]; rfl)) ?_; (with_reducible refine (laws_toChordS.calls k _ _ l1 t102 _ ?side1 ?side2 A5.out).mono ?_); (case side1 => repeat (first | exact HR1.out | (with_reducible refine Kd.C_alloc ?_ _) | (with_reducible refine Kd.C_drewN ?_ _) | (with_reducible refine Kd.C_drew ?_))); (case side2 => exact HC1.out); rintro e w10 ⟨v103, rfl, ho0, hb⟩; refine ⟨_, rfl, ?_⟩; have n0_ := Aside0.mk (Kd.R_lower ho0 (below_size (by repeat (first | (with_reducible first | exact HB.out | apply below_alloc | apply pw_below_drewN | apply below_drew1) | exact HB.out)))); have n1_ := Aside0.mk (below_step (by repeat (first | (with_reducible first | exact HB.out | apply below_alloc | apply pw_below_drewN | apply below_drew1) | exact HB.out)) hb); clear HB; have HO104 := n0_; have HB := n1_; clear n0_ n1_; (try clear hb); (try clear hb2); (try clear hk); (try clear hi); (try clear ho0); obtain ⟨Ao11, co11, eo11⟩ := Kd.R_slice HO104.out; subst eo11) | ((with_reducible refine gate_callee (f := 29) rfl ?_); refine goesL_ (some 25) rfl rfl Try.func29 (by kernel_rfl) rfl #[.int .i64 a0, .slice Ao11 t102.length co11] rfl (by (try simp only [List.map_toArray, List.map_cons, List.map_nil]); first | done | rfl | (simp only [List.length_drop, List.length_take]; rfl)) ?_; (with_reducible refine (spec_EndRegions.calls a0 _ _ t102 t105 t106 _ ?side1 ?side2 A6.out).mono ?_); (case side1 => repeat (first | exact (Kd.R_reads' HO104.out).2.2 | (with_reducible refine Kd.C_alloc ?_ _) | (with_reducible refine Kd.C_drewN ?_ _) | (with_reducible refine Kd.C_drew ?_))); (case side2 => exact (Kd.R_reads' HO104.out).2.1); rintro e w12 ⟨v107, rfl, ho0, hb⟩; refine ⟨_, rfl, ?_⟩; have n0_ := Aside0.mk (Kd.R_below (by (with_reducible repeat (first | apply Kd.R_alloc | apply Kd.R_drewN | apply Kd.R_drew)); exact HO104.out) hb); have n1_ := Aside0.mk (Kd.R_lower ho0 (below_size (by repeat (first | (with_reducible first | exact HB.out | apply below_alloc | apply pw_below_drewN | apply below_drew1) | exact HB.out)))); have n2_ := Aside0.mk (below_step (by repeat (first | (with_reducible first | exact HB.out | apply below_alloc | apply pw_below_drewN | apply below_drew1) | exact HB.out)) hb); clear HO104; clear HB; have HO104 := n0_; have HO108 := n1_; have HB := n2_; clear n0_ n1_ n2_; (try clear hb); (try clear hb2); (try clear hk); (try clear hi); (try clear ho0)) | ((with_reducible refine gate_callee (f := 12) rfl ?_); refine goesL_ (some 29) rfl rfl Try.func12 (by kernel_rfl) rfl #[.slice A1 l1.length c1] rfl (by (try simp only [List.map_toArray, List.map_cons, List.map_nil]); first | done | rfl | (simp only [List.length_drop, List.length_take]; rfl)) ?_; (with_reducible refine (laws_toChordS.calls k _ _ l1 t109 _ ?side1 ?side2 A7.out).mono ?_); (case side1 => repeat (first | exact (Kd.C_below HR1.out HB.out) | (with_reducible refine Kd.C_alloc ?_ _) | (with_reducible refine Kd.C_drewN ?_ _) | (with_reducible refine Kd.C_drew ?_))); (case side2 => exact HC1.out); rintro e w13 ⟨v110, rfl, ho0, hb⟩; refine ⟨_, rfl, ?_⟩; have n0_ := Aside0.mk (Kd.R_elder' (by (with_reducible repeat (first | apply Kd.R_alloc | apply Kd.R_drewN | apply Kd.R_drew)); exact HO104.out) (Kd.R_base ho0) hb); have n1_ := Aside0.mk (Kd.R_below (by (with_reducible repeat (first | apply Kd.R_alloc | apply Kd.R_drewN | apply Kd.R_drew)); exact HO108.out) hb); have n2_ := Aside0.mk (Kd.R_lower (Kd.R_new' ho0 (Kd.R_lt (by (with_reducible repeat (first | apply Kd.R_alloc | apply Kd.R_drewN | apply Kd.R_drew)); exact HO104.out))) (below_size (by repeat (first | (with_reducible first | exact HB.out | apply below_alloc | apply pw_below_drewN | apply below_drew1) | exact HB.out)))); have n3_ := Aside0.mk (below_step (by repeat (first | (with_reducible first | exact HB.out | apply below_alloc | apply pw_below_drewN | apply below_drew1) | exact HB.out)) hb); clear HO104; clear HO108; clear HB; have HO104 := n0_; have HO108 := n1_; have HO111 := n2_; have HB := n3_; clear n0_ n1_ n2_ n3_; (try clear hb); (try clear hb2); (try clear hk); (try clear hi); (try clear ho0); obtain ⟨Ao14, co14, eo14⟩ := Kd.R_slice HO111.out; subst eo14) | ((with_reducible refine gate_callee (f := 30) rfl ?_); refine goesL_ (some 33) rfl rfl Try.func30 (by kernel_rfl) rfl #[.int .i64 a0, .slice Ao14 t109.length co14] rfl (by (try simp only [List.map_toArray, List.map_cons, List.map_nil]); first | done | rfl | (simp only [List.length_drop, List.length_take]; rfl)) ?_; (with_reducible refine (impl_EndRegions.calls a0 _ _ t109 t112 t113 _ ?side1 ?side2 A8.out).mono ?_); (case side1 => repeat (first | exact (Kd.R_reads' HO111.out).2.2 | (with_reducible refine Kd.C_alloc ?_ _) | (with_reducible refine Kd.C_drewN ?_ _) | (with_reducible refine Kd.C_drew ?_))); (case side2 => exact (Kd.R_reads' HO111.out).2.1); rintro e w15 ⟨v114, rfl, ho0, hb⟩; refine ⟨_, rfl, ?_⟩; have n0_ := Aside0.mk (Kd.R_below (by (with_reducible repeat (first | apply Kd.R_alloc | apply Kd.R_drewN | apply Kd.R_drew)); exact HO104.out) hb); have n1_ := Aside0.mk (Kd.R_elder' (by (with_reducible repeat (first | apply Kd.R_alloc | apply Kd.R_drewN | apply Kd.R_drew)); exact HO108.out) (Kd.R_base ho0) hb); have n2_ := Aside0.mk (Kd.R_below (by (with_reducible repeat (first | apply Kd.R_alloc | apply Kd.R_drewN | apply Kd.R_drew)); exact HO111.out) hb); have n3_ := Aside0.mk (Kd.R_lower (Kd.R_new' ho0 (Kd.R_lt (by (with_reducible repeat (first | apply Kd.R_alloc | apply Kd.R_drewN | apply Kd.R_drew)); exact HO108.out))) (below_size (by repeat (first | (with_reducible first | exact HB.out | apply below_alloc | apply pw_below_drewN | apply below_drew1) | exact HB.out)))); have n4_ := Aside0.mk (below_step (by repeat (first | (with_reducible first | exact HB.out | apply below_alloc | apply pw_below_drewN | apply below_drew1) | exact HB.out)) hb); clear HO104; clear HO108; clear HO111; clear HB; have HO104 := n0_; have HO108 := n1_; have HO111 := n2_; have HO115 := n3_; have HB := n4_; clear n0_ n1_ n2_ n3_ n4_; (try clear hb); (try clear hb2); (try clear hk); (try clear hi); (try clear ho0)))
    (try simp only [Act.put, List.setIfInBounds_toArray, List.set_cons_zero, List.set_cons_succ])
    go_cut [44] (fun v44 wc => ∃ (kq : Nat) (x44_8 : Bool), v44 = .bool x44_8 ∧ Aside0 (laws_FnExactEndRegions.j0 kq a0 l1 t105 t106 t109 t112 t113 x44_8 = some r) ∧ Aside0 (kq ≤ k) ∧ Aside0 (Kd.R (Kd.int .i64) 3 wc w.heap.size (fun k_ => some k_ ≠ (v114 : Value).ownBlock) v107 t105) ∧ Aside0 (Kd.R k64 64 wc w.heap.size (fun _ => True) (.slice Ao14 t109.length co14) t109) ∧ Aside0 (Kd.R (Kd.int .i64) 3 wc w.heap.size (fun k_ => some k_ ≠ (v107 : Value).ownBlock) v114 t112) ∧ Aside0 (Below w.heap.size w wc))
    case first =>
      have H := HC9.out
      clear HC9
      replace H := Option.bind_eq_some_iff.mp H
      obtain ⟨t116, A160, H⟩ := H
      replace H : (if t116 = true then (laws_FnExactEndRegions.j0 k a0 l1 t105 t106 t109 t112 t113 (t113 != t106)) else (laws_FnExactEndRegions.j0 k a0 l1 t105 t106 t109 t112 t113 true)) = some r := H
      have A16 := Aside0.mk A160
      clear A160
      by_cases c17 : t116 = true
      · subst c17
        have H1 : (laws_FnExactEndRegions.j0 k a0 l1 t105 t106 t109 t112 t113 (t113 != t106)) = some r := by rw [if_pos rfl] at H; exact H
        clear H
        have H := H1
        clear H1
        have H' := Aside0.mk H
        clear H
        obtain ⟨Ao18, co18, eo18⟩ := Kd.R_slice HO115.out
        subst eo18
        obtain ⟨Ao19, co19, eo19⟩ := Kd.R_slice HO108.out
        subst eo19
        go_wp2_with (first | ((with_reducible refine gate_callee (f := 14) rfl ?_); refine goesL_ (some 38) rfl rfl Try.func14 (by kernel_rfl) rfl #[.slice Ao18 t112.length co18, .slice Ao19 t105.length co19] rfl (by (try simp only [List.map_toArray, List.map_cons, List.map_nil]); first | done | rfl | (simp only [List.length_drop, List.length_take]; rfl)) ?_; (with_reducible refine (laws_eqIntS.calls k _ _ t112 _ _ t105 true _ ?side1 ?side2 ?side3 ?side4 A16.out).mono ?_); (case side1 => repeat (first | exact (Kd.R_reads' HO115.out).2.2 | (with_reducible refine Kd.C_alloc ?_ _) | (with_reducible refine Kd.C_drewN ?_ _) | (with_reducible refine Kd.C_drew ?_))); (case side2 => exact (Kd.R_reads' HO115.out).2.1); (case side3 => repeat (first | exact (Kd.R_reads' HO108.out).2.2 | (with_reducible refine Kd.C_alloc ?_ _) | (with_reducible refine Kd.C_drewN ?_ _) | (with_reducible refine Kd.C_drew ?_))); (case side4 => exact (Kd.R_reads' HO108.out).2.1); rintro e w' ⟨rfl, ⟨nd, rfl⟩⟩; refine ⟨_, rfl, ?_⟩))
        go_meet
        case rel => exact ⟨_, ((t113 != t106)), (by first | rfl | (simp; done) | (simp [*]; done)), H', ⟨by first | omega | exact Nat.le_refl _⟩, ⟨by (with_reducible repeat (first | apply Kd.R_alloc | apply Kd.R_drewN | apply Kd.R_drew)); exact Kd.R_mono HO108.out (fun _ hk => hk.2)⟩, ⟨by (with_reducible repeat (first | apply Kd.R_alloc | apply Kd.R_drewN | apply Kd.R_drew)); exact Kd.R_mono HO111.out (fun _ hk => trivial)⟩, ⟨by (with_reducible repeat (first | apply Kd.R_alloc | apply Kd.R_drewN | apply Kd.R_drew)); exact Kd.R_mono HO115.out (fun _ hk => hk.2)⟩, ⟨by repeat (first | (with_reducible first | exact HB.out | apply below_alloc | apply pw_below_drewN | apply below_drew1) | exact HB.out)⟩⟩
      · replace c17 := Bool.eq_false_iff.mpr c17
        subst c17
        have H1 : (laws_FnExactEndRegions.j0 k a0 l1 t105 t106 t109 t112 t113 true) = some r := by rw [if_neg (show ¬ (false = true) by decide)] at H; exact H
        clear H
        have H := H1
        clear H1
        have H' := Aside0.mk H
        clear H
        obtain ⟨Ao20, co20, eo20⟩ := Kd.R_slice HO115.out
        subst eo20
        obtain ⟨Ao21, co21, eo21⟩ := Kd.R_slice HO108.out
        subst eo21
        go_wp2_with (first | ((with_reducible refine gate_callee (f := 14) rfl ?_); refine goesL_ (some 38) rfl rfl Try.func14 (by kernel_rfl) rfl #[.slice Ao20 t112.length co20, .slice Ao21 t105.length co21] rfl (by (try simp only [List.map_toArray, List.map_cons, List.map_nil]); first | done | rfl | (simp only [List.length_drop, List.length_take]; rfl)) ?_; (with_reducible refine (laws_eqIntS.calls k _ _ t112 _ _ t105 false _ ?side1 ?side2 ?side3 ?side4 A16.out).mono ?_); (case side1 => repeat (first | exact (Kd.R_reads' HO115.out).2.2 | (with_reducible refine Kd.C_alloc ?_ _) | (with_reducible refine Kd.C_drewN ?_ _) | (with_reducible refine Kd.C_drew ?_))); (case side2 => exact (Kd.R_reads' HO115.out).2.1); (case side3 => repeat (first | exact (Kd.R_reads' HO108.out).2.2 | (with_reducible refine Kd.C_alloc ?_ _) | (with_reducible refine Kd.C_drewN ?_ _) | (with_reducible refine Kd.C_drew ?_))); (case side4 => exact (Kd.R_reads' HO108.out).2.1); rintro e w' ⟨rfl, ⟨nd, rfl⟩⟩; refine ⟨_, rfl, ?_⟩))
        go_meet
        case rel => exact ⟨_, (true), (by first | rfl | (simp; done) | (simp [*]; done)), H', ⟨by first | omega | exact Nat.le_refl _⟩, ⟨by (with_reducible repeat (first | apply Kd.R_alloc | apply Kd.R_drewN | apply Kd.R_drew)); exact Kd.R_mono HO108.out (fun _ hk => hk.2)⟩, ⟨by (with_reducible repeat (first | apply Kd.R_alloc | apply Kd.R_drewN | apply Kd.R_drew)); exact Kd.R_mono HO111.out (fun _ hk => trivial)⟩, ⟨by (with_reducible repeat (first | apply Kd.R_alloc | apply Kd.R_drewN | apply Kd.R_drew)); exact Kd.R_mono HO115.out (fun _ hk => hk.2)⟩, ⟨by repeat (first | (with_reducible first | exact HB.out | apply below_alloc | apply pw_below_drewN | apply below_drew1) | exact HB.out)⟩⟩
    case rest =>
      clear HC9
      try clear c1
      try clear c2
      try clear p2
      try clear c3
      try clear c4
      try clear c4b0
      try clear c7
      try clear c10
      try clear c12
      try clear c14
      try clear c17
      obtain ⟨kq, x44_8, rfl, HA, HJ8, HO_6, HO_8, HO_9, HB⟩ := hcut
      cases kq with
      | zero => exact absurd HA.out (by simp [laws_FnExactEndRegions.j0])
      | succ kj8 =>
        have H := HA.out
        clear HA
        simp only [laws_FnExactEndRegions.j0] at H
        by_cases c22 : x44_8 = true
        · subst c22
          have H1 : (some false) = some r := by rw [if_pos rfl] at H; exact H
          clear H
          have H := H1
          clear H1
          obtain rfl := Option.some.inj H
          go_wp2
          go_ret
          exact ⟨by first | rfl | (simp [errW_none, errW_some] <;> rfl) | (simp [*, errW_none, errW_some] <;> rfl), by repeat (first | (with_reducible first | exact HB.out | apply below_alloc | apply pw_below_drewN | apply below_drew1) | exact HB.out)⟩
        · replace c22 := Bool.eq_false_iff.mpr c22
          subst c22
          have H1 : ((laws_toChordS.f kj8 l1).bind fun t117 => ((laws_eqChordS.f kj8 t109 t117).bind fun t120 => (if t120 = true then ((laws_markChordS.f kj8 t109 1).bind fun bt121 => (if bt121.1 < 0 then (laws_FnExactEndRegions.j1 kj8 a0 l1 t105 t106 t112 true) else ((laws_eqIntS.f kj8 t112 t105).bind fun t123 => (if t123 = true then (laws_FnExactEndRegions.j1 kj8 a0 l1 t105 t106 t112 (t113 != t106)) else (laws_FnExactEndRegions.j1 kj8 a0 l1 t105 t106 t112 true))))) else (some false)))) = some r := by rw [if_neg (show ¬ (false = true) by decide)] at H; exact H
          clear H
          have H := H1
          clear H1
          replace H := Option.bind_eq_some_iff.mp H
          obtain ⟨t117, A230, H⟩ := H
          replace H : ((laws_eqChordS.f kj8 t109 t117).bind fun t120 => (if t120 = true then ((laws_markChordS.f kj8 t109 1).bind fun bt121 => (if bt121.1 < 0 then (laws_FnExactEndRegions.j1 kj8 a0 l1 t105 t106 t112 true) else ((laws_eqIntS.f kj8 t112 t105).bind fun t123 => (if t123 = true then (laws_FnExactEndRegions.j1 kj8 a0 l1 t105 t106 t112 (t113 != t106)) else (laws_FnExactEndRegions.j1 kj8 a0 l1 t105 t106 t112 true))))) else (some false))) = some r := H
          have A23 := Aside0.mk A230
          clear A230
          replace H := Option.bind_eq_some_iff.mp H
          obtain ⟨t120, A240, H⟩ := H
          replace H : (if t120 = true then ((laws_markChordS.f kj8 t109 1).bind fun bt121 => (if bt121.1 < 0 then (laws_FnExactEndRegions.j1 kj8 a0 l1 t105 t106 t112 true) else ((laws_eqIntS.f kj8 t112 t105).bind fun t123 => (if t123 = true then (laws_FnExactEndRegions.j1 kj8 a0 l1 t105 t106 t112 (t113 != t106)) else (laws_FnExactEndRegions.j1 kj8 a0 l1 t105 t106 t112 true))))) else (some false)) = some r := H
          have A24 := Aside0.mk A240
          clear A240
          by_cases c25 : t120 = true
          · subst c25
            have H1 : ((laws_markChordS.f kj8 t109 1).bind fun bt121 => (if bt121.1 < 0 then (laws_FnExactEndRegions.j1 kj8 a0 l1 t105 t106 t112 true) else ((laws_eqIntS.f kj8 t112 t105).bind fun t123 => (if t123 = true then (laws_FnExactEndRegions.j1 kj8 a0 l1 t105 t106 t112 (t113 != t106)) else (laws_FnExactEndRegions.j1 kj8 a0 l1 t105 t106 t112 true))))) = some r := by rw [if_pos rfl] at H; exact H
            clear H
            have H := H1
            clear H1
            replace H := Option.bind_eq_some_iff.mp H
            obtain ⟨⟨t121, t122⟩, A260, H⟩ := H
            replace H : (if t121 < 0 then (laws_FnExactEndRegions.j1 kj8 a0 l1 t105 t106 t112 true) else ((laws_eqIntS.f kj8 t112 t105).bind fun t123 => (if t123 = true then (laws_FnExactEndRegions.j1 kj8 a0 l1 t105 t106 t112 (t113 != t106)) else (laws_FnExactEndRegions.j1 kj8 a0 l1 t105 t106 t112 true)))) = some r := H
            have A26 := Aside0.mk A260
            clear A260
            have HC27 := Aside0.mk H
            clear H
            go_upto_region 14 with (first | ((with_reducible refine gate_callee (f := 12) rfl ?_); refine goesL_ (some 47) rfl rfl Try.func12 (by kernel_rfl) rfl #[.slice A1 l1.length c1] rfl (by (try simp only [List.map_toArray, List.map_cons, List.map_nil]); first | done | rfl | (simp only [List.length_drop, List.length_take]; rfl)) ?_; (with_reducible refine (laws_toChordS.calls kj8 _ _ l1 t117 _ ?side1 ?side2 A23.out).mono ?_); (case side1 => repeat (first | exact (Kd.C_below HR1.out HB.out) | (with_reducible refine Kd.C_alloc ?_ _) | (with_reducible refine Kd.C_drewN ?_ _) | (with_reducible refine Kd.C_drew ?_))); (case side2 => exact HC1.out); rintro e w28 ⟨v118, rfl, ho0, hb⟩; refine ⟨_, rfl, ?_⟩; have n0_ := Aside0.mk (Kd.R_below (by (with_reducible repeat (first | apply Kd.R_alloc | apply Kd.R_drewN | apply Kd.R_drew)); exact HO_6.out) hb); have n1_ := Aside0.mk (Kd.R_elder' (by (with_reducible repeat (first | apply Kd.R_alloc | apply Kd.R_drewN | apply Kd.R_drew)); exact HO_8.out) (Kd.R_base ho0) hb); have n2_ := Aside0.mk (Kd.R_below (by (with_reducible repeat (first | apply Kd.R_alloc | apply Kd.R_drewN | apply Kd.R_drew)); exact HO_9.out) hb); have n3_ := Aside0.mk (Kd.R_lower (Kd.R_new' ho0 (Kd.R_lt (by (with_reducible repeat (first | apply Kd.R_alloc | apply Kd.R_drewN | apply Kd.R_drew)); exact HO_8.out))) (below_size (by repeat (first | (with_reducible first | exact HB.out | apply below_alloc | apply pw_below_drewN | apply below_drew1) | exact HB.out)))); have n4_ := Aside0.mk (below_step (by repeat (first | (with_reducible first | exact HB.out | apply below_alloc | apply pw_below_drewN | apply below_drew1) | exact HB.out)) hb); clear HO_6; clear HO_8; clear HO_9; clear HB; have HO_6 := n0_; have HO_8 := n1_; have HO_9 := n2_; have HO119 := n3_; have HB := n4_; clear n0_ n1_ n2_ n3_ n4_; (try clear hb); (try clear hb2); (try clear hk); (try clear hi); (try clear ho0); obtain ⟨Ao29, co29, eo29⟩ := Kd.R_slice HO119.out; subst eo29) | ((with_reducible refine gate_callee (f := 15) rfl ?_); refine goesL_ (some 48) rfl rfl Try.func15 (by kernel_rfl) rfl #[.slice Ao14 t109.length co14, .slice Ao29 t117.length co29] rfl (by (try simp only [List.map_toArray, List.map_cons, List.map_nil]); first | done | rfl | (simp only [List.length_drop, List.length_take]; rfl)) ?_; (with_reducible refine (laws_eqChordS.calls kj8 _ _ t109 _ _ t117 true _ ?side1 ?side2 ?side3 ?side4 A24.out).mono ?_); (case side1 => repeat (first | exact (Kd.R_reads' HO_8.out).2.2 | (with_reducible refine Kd.C_alloc ?_ _) | (with_reducible refine Kd.C_drewN ?_ _) | (with_reducible refine Kd.C_drew ?_))); (case side2 => exact (Kd.R_reads' HO_8.out).2.1); (case side3 => repeat (first | exact (Kd.R_reads' HO119.out).2.2 | (with_reducible refine Kd.C_alloc ?_ _) | (with_reducible refine Kd.C_drewN ?_ _) | (with_reducible refine Kd.C_drew ?_))); (case side4 => exact (Kd.R_reads' HO119.out).2.1); rintro e w30 ⟨rfl, hb⟩; refine ⟨_, rfl, ?_⟩; have n0_ := Aside0.mk (Kd.R_below (by (with_reducible repeat (first | apply Kd.R_alloc | apply Kd.R_drewN | apply Kd.R_drew)); exact HO_6.out) hb); have n1_ := Aside0.mk (Kd.R_below (by (with_reducible repeat (first | apply Kd.R_alloc | apply Kd.R_drewN | apply Kd.R_drew)); exact HO_8.out) hb); have n2_ := Aside0.mk (Kd.R_below (by (with_reducible repeat (first | apply Kd.R_alloc | apply Kd.R_drewN | apply Kd.R_drew)); exact HO_9.out) hb); have n3_ := Aside0.mk (Kd.R_below (by (with_reducible repeat (first | apply Kd.R_alloc | apply Kd.R_drewN | apply Kd.R_drew)); exact HO119.out) hb); have n4_ := Aside0.mk (below_step (by repeat (first | (with_reducible first | exact HB.out | apply below_alloc | apply pw_below_drewN | apply below_drew1) | exact HB.out)) hb); clear HO_6; clear HO_8; clear HO_9; clear HO119; clear HB; have HO_6 := n0_; have HO_8 := n1_; have HO_9 := n2_; have HO119 := n3_; have HB := n4_; clear n0_ n1_ n2_ n3_ n4_; (try clear hb); (try clear hb2); (try clear hk); (try clear hi)) | ((with_reducible refine gate_callee (f := 16) rfl ?_); refine goesL_ (some 52) rfl rfl Try.func16 (by kernel_rfl) rfl #[.slice Ao14 t109.length co14, .int .i64 1] rfl (by (try simp only [List.map_toArray, List.map_cons, List.map_nil]); first | done | rfl | (simp only [List.length_drop, List.length_take]; rfl)) ?_; (with_reducible refine (laws_markChordS.calls kj8 (fun k_ => some k_ = (.slice Ao14 t109.length co14 : Value).ownBlock) (.slice Ao14 t109.length co14) t109 1 t121 t122 w _ ?side1 ?side2 A26.out).mono ?_); (case side1 => repeat (first | (with_reducible first | exact HB.out | apply below_alloc | apply pw_below_drewN | apply below_drew1) | exact HB.out)); (case side2 => exact Kd.R_tight rfl HO_8.out); rintro e w31 ⟨rfl, hy0, hb, hkp⟩; refine ⟨_, rfl, ?_⟩; have n0_ := Aside0.mk (Kd.R_mono (ok' := fun k_ => some k_ ≠ (v114 : Value).ownBlock) (Kd.R_keptB ((Kd.R_apart' HO_6.out (Kd.R_typed HO_8.out) (by decide))) hkp (fun k_ hk_ hs_ => (hk_.2) hs_)) (fun k_ hk_ => hk_.1.1)); have n1_ := Aside0.mk (Kd.R_reok rfl hy0 (fun k_ e_ => HO_8.out.1 k_ e_)); have n2_ := Aside0.mk (Kd.R_mono (ok' := fun k_ => some k_ ≠ (v107 : Value).ownBlock) (Kd.R_keptB ((Kd.R_apart' HO_9.out (Kd.R_typed HO_8.out) (by decide))) hkp (fun k_ hk_ hs_ => (hk_.2) hs_)) (fun k_ hk_ => hk_.1.1)); have n3_ := Aside0.mk (Kd.R_mono (ok' := fun k_ => some k_ ≠ (.slice Ao14 t109.length co14 : Value).ownBlock) (Kd.R_keptB (HO119.out) hkp (fun k_ hk_ hs_ => (hk_.2) hs_)) (fun k_ hk_ => hk_.1.2)); have n4_ := Aside0.mk (hb); clear HO_6; clear HO_8; clear HO_9; clear HO119; clear HB; have HO_6 := n0_; have HO_8 := n1_; have HO_9 := n2_; have HO119 := n3_; have HB := n4_; clear n0_ n1_ n2_ n3_ n4_; (try clear hb); (try clear hkp); (try clear hy0)))
            (try simp only [Act.put, List.setIfInBounds_toArray, List.set_cons_zero, List.set_cons_succ])
            go_cut [65] (fun v65 wc => ∃ (kq : Nat) (x65_26 : Bool), v65 = .bool x65_26 ∧ Aside0 (laws_FnExactEndRegions.j1 kq a0 l1 t105 t106 t112 x65_26 = some r) ∧ Aside0 (kq ≤ kj8) ∧ Aside0 (Kd.R (Kd.int .i64) 3 wc w.heap.size (fun k_ => some k_ ≠ (v114 : Value).ownBlock) v107 t105) ∧ Aside0 (Kd.R (Kd.int .i64) 3 wc w.heap.size (fun k_ => some k_ ≠ (v107 : Value).ownBlock) v114 t112) ∧ Aside0 (Below w.heap.size w wc))
            case first =>
              have H := HC27.out
              clear HC27
              by_cases c32 : t121 < 0
              · rw [if_pos c32] at H
                have c32b0 : decide (t121 < 0) = true := decide_eq_true c32
                clear c32
                (first | rw [c32b0] | (simp only [i64_w, i32_w]; rw [c32b0]) | skip)
                have H' := Aside0.mk H
                clear H
                go_wp2
                go_meet
                case rel => exact ⟨_, (true), (by first | rfl | (simp; done) | (simp [*]; done)), H', ⟨by have := HJ8.out; first | omega | exact Nat.le_refl _⟩, ⟨by (with_reducible repeat (first | apply Kd.R_alloc | apply Kd.R_drewN | apply Kd.R_drew)); exact HO_6.out⟩, ⟨by (with_reducible repeat (first | apply Kd.R_alloc | apply Kd.R_drewN | apply Kd.R_drew)); exact HO_9.out⟩, ⟨by repeat (first | (with_reducible first | exact HB.out | apply below_alloc | apply pw_below_drewN | apply below_drew1) | exact HB.out)⟩⟩
              · rw [if_neg c32] at H
                have c32b0 : decide (t121 < 0) = false := decide_eq_false c32
                clear c32
                (first | rw [c32b0] | (simp only [i64_w, i32_w]; rw [c32b0]) | skip)
                replace H := Option.bind_eq_some_iff.mp H
                obtain ⟨t123, A330, H⟩ := H
                replace H : (if t123 = true then (laws_FnExactEndRegions.j1 kj8 a0 l1 t105 t106 t112 (t113 != t106)) else (laws_FnExactEndRegions.j1 kj8 a0 l1 t105 t106 t112 true)) = some r := H
                have A33 := Aside0.mk A330
                clear A330
                by_cases c34 : t123 = true
                · subst c34
                  have H1 : (laws_FnExactEndRegions.j1 kj8 a0 l1 t105 t106 t112 (t113 != t106)) = some r := by rw [if_pos rfl] at H; exact H
                  clear H
                  have H := H1
                  clear H1
                  have H' := Aside0.mk H
                  clear H
                  obtain ⟨Ao35, co35, eo35⟩ := Kd.R_slice HO_9.out
                  subst eo35
                  obtain ⟨Ao36, co36, eo36⟩ := Kd.R_slice HO_6.out
                  subst eo36
                  go_wp2_with (first | (go_at_call 14; (with_reducible refine (laws_eqIntS.calls kj8 _ _ t112 _ _ t105 true _ ?side1 ?side2 ?side3 ?side4 A33.out).mono ?_); (case side1 => repeat (first | exact (Kd.R_reads' HO_9.out).2.2 | (with_reducible refine Kd.C_alloc ?_ _) | (with_reducible refine Kd.C_drewN ?_ _) | (with_reducible refine Kd.C_drew ?_))); (case side2 => exact (Kd.R_reads' HO_9.out).2.1); (case side3 => repeat (first | exact (Kd.R_reads' HO_6.out).2.2 | (with_reducible refine Kd.C_alloc ?_ _) | (with_reducible refine Kd.C_drewN ?_ _) | (with_reducible refine Kd.C_drew ?_))); (case side4 => exact (Kd.R_reads' HO_6.out).2.1); rintro e w' ⟨rfl, ⟨nd, rfl⟩⟩))
                  go_meet
                  case rel => exact ⟨_, ((t113 != t106)), (by first | rfl | (simp; done) | (simp [*]; done)), H', ⟨by have := HJ8.out; first | omega | exact Nat.le_refl _⟩, ⟨by (with_reducible repeat (first | apply Kd.R_alloc | apply Kd.R_drewN | apply Kd.R_drew)); exact HO_6.out⟩, ⟨by (with_reducible repeat (first | apply Kd.R_alloc | apply Kd.R_drewN | apply Kd.R_drew)); exact HO_9.out⟩, ⟨by repeat (first | (with_reducible first | exact HB.out | apply below_alloc | apply pw_below_drewN | apply below_drew1) | exact HB.out)⟩⟩
                · replace c34 := Bool.eq_false_iff.mpr c34
                  subst c34
                  have H1 : (laws_FnExactEndRegions.j1 kj8 a0 l1 t105 t106 t112 true) = some r := by rw [if_neg (show ¬ (false = true) by decide)] at H; exact H
                  clear H
                  have H := H1
                  clear H1
                  have H' := Aside0.mk H
                  clear H
                  obtain ⟨Ao37, co37, eo37⟩ := Kd.R_slice HO_9.out
                  subst eo37
                  obtain ⟨Ao38, co38, eo38⟩ := Kd.R_slice HO_6.out
                  subst eo38
                  go_wp2_with (first | (go_at_call 14; (with_reducible refine (laws_eqIntS.calls kj8 _ _ t112 _ _ t105 false _ ?side1 ?side2 ?side3 ?side4 A33.out).mono ?_); (case side1 => repeat (first | exact (Kd.R_reads' HO_9.out).2.2 | (with_reducible refine Kd.C_alloc ?_ _) | (with_reducible refine Kd.C_drewN ?_ _) | (with_reducible refine Kd.C_drew ?_))); (case side2 => exact (Kd.R_reads' HO_9.out).2.1); (case side3 => repeat (first | exact (Kd.R_reads' HO_6.out).2.2 | (with_reducible refine Kd.C_alloc ?_ _) | (with_reducible refine Kd.C_drewN ?_ _) | (with_reducible refine Kd.C_drew ?_))); (case side4 => exact (Kd.R_reads' HO_6.out).2.1); rintro e w' ⟨rfl, ⟨nd, rfl⟩⟩))
                  go_meet
                  case rel => exact ⟨_, (true), (by first | rfl | (simp; done) | (simp [*]; done)), H', ⟨by have := HJ8.out; first | omega | exact Nat.le_refl _⟩, ⟨by (with_reducible repeat (first | apply Kd.R_alloc | apply Kd.R_drewN | apply Kd.R_drew)); exact HO_6.out⟩, ⟨by (with_reducible repeat (first | apply Kd.R_alloc | apply Kd.R_drewN | apply Kd.R_drew)); exact HO_9.out⟩, ⟨by repeat (first | (with_reducible first | exact HB.out | apply below_alloc | apply pw_below_drewN | apply below_drew1) | exact HB.out)⟩⟩
            case rest =>
              clear HC27
              try clear c1
              try clear c2
              try clear p2
              try clear c3
              try clear c4
              try clear c4b0
              try clear c7
              try clear c10
              try clear c12
              try clear c14
              try clear c15
              try clear c16
              try clear c17
              try clear c22
              try clear c25
              try clear c29
              try clear c30
              try clear c32
              try clear c32b0
              try clear c34
              try clear p2
              obtain ⟨kq, x65_26, rfl, HA, HJ26, HO_6, HO_9, HB⟩ := hcut
              cases kq with
              | zero => exact absurd HA.out (by simp [laws_FnExactEndRegions.j1])
              | succ kj26 =>
                have H := HA.out
                clear HA
                simp only [laws_FnExactEndRegions.j1] at H
                by_cases c39 : x65_26 = true
                · subst c39
                  have H1 : (some false) = some r := by rw [if_pos rfl] at H; exact H
                  clear H
                  have H := H1
                  clear H1
                  obtain rfl := Option.some.inj H
                  go_wp2
                  go_ret
                  exact ⟨by first | rfl | (simp [errW_none, errW_some] <;> rfl) | (simp [*, errW_none, errW_some] <;> rfl), by repeat (first | (with_reducible first | exact HB.out | apply below_alloc | apply pw_below_drewN | apply below_drew1) | exact HB.out)⟩
                · replace c39 := Bool.eq_false_iff.mpr c39
                  subst c39
                  have H1 : ((laws_markIntS.f kj26 t112 1).bind fun bt124 => ((laws_heldIntS.f kj26 bt124.2 1).bind fun t126 => (if t126 < 0 then (some false) else (if t126 = bt124.1 then ((laws_toChordS.f kj26 l1).bind fun t127 => ((impl_EndRegions.f a0 t127).bind fun bt130 => ((laws_eqIntS.f kj26 bt130.1 t105).bind fun t134 => (if t134 = true then (laws_FnExactEndRegions.j2 kj26 bt124.2 bt124.1 (bt130.2 != t106)) else (laws_FnExactEndRegions.j2 kj26 bt124.2 bt124.1 true))))) else (some false))))) = some r := by rw [if_neg (show ¬ (false = true) by decide)] at H; exact H
                  clear H
                  have H := H1
                  clear H1
                  replace H := Option.bind_eq_some_iff.mp H
                  obtain ⟨⟨t124, t125⟩, A400, H⟩ := H
                  replace H : ((laws_heldIntS.f kj26 t125 1).bind fun t126 => (if t126 < 0 then (some false) else (if t126 = t124 then ((laws_toChordS.f kj26 l1).bind fun t127 => ((impl_EndRegions.f a0 t127).bind fun bt130 => ((laws_eqIntS.f kj26 bt130.1 t105).bind fun t134 => (if t134 = true then (laws_FnExactEndRegions.j2 kj26 t125 t124 (bt130.2 != t106)) else (laws_FnExactEndRegions.j2 kj26 t125 t124 true))))) else (some false)))) = some r := H
                  have A40 := Aside0.mk A400
                  clear A400
                  replace H := Option.bind_eq_some_iff.mp H
                  obtain ⟨t126, A410, H⟩ := H
                  replace H : (if t126 < 0 then (some false) else (if t126 = t124 then ((laws_toChordS.f kj26 l1).bind fun t127 => ((impl_EndRegions.f a0 t127).bind fun bt130 => ((laws_eqIntS.f kj26 bt130.1 t105).bind fun t134 => (if t134 = true then (laws_FnExactEndRegions.j2 kj26 t125 t124 (bt130.2 != t106)) else (laws_FnExactEndRegions.j2 kj26 t125 t124 true))))) else (some false))) = some r := H
                  have A41 := Aside0.mk A410
                  clear A410
                  by_cases c42 : t126 < 0
                  · rw [if_pos c42] at H
                    have c42b0 : decide (t126 < 0) = true := decide_eq_true c42
                    clear c42
                    obtain rfl := Option.some.inj H
                    obtain ⟨Ao43, co43, eo43⟩ := Kd.R_slice HO_9.out
                    subst eo43
                    go_wp2_with (first | ((with_reducible refine gate_callee (f := 17) rfl ?_); refine goesL_ (some 68) rfl rfl Try.func17 (by kernel_rfl) rfl #[.slice Ao43 t112.length co43, .int .i64 1] rfl (by (try simp only [List.map_toArray, List.map_cons, List.map_nil]); first | done | rfl | (simp only [List.length_drop, List.length_take]; rfl)) ?_; (with_reducible refine (laws_markIntS.calls kj26 (fun k_ => some k_ = (.slice Ao43 t112.length co43 : Value).ownBlock) (.slice Ao43 t112.length co43) t112 1 t124 t125 w _ ?side1 ?side2 A40.out).mono ?_); (case side1 => repeat (first | (with_reducible first | exact HB.out | apply below_alloc | apply pw_below_drewN | apply below_drew1) | exact HB.out)); (case side2 => exact Kd.R_tight rfl HO_9.out); rintro e w44 ⟨rfl, hy0, hb, hkp⟩; refine ⟨_, rfl, ?_⟩; have n0_ := Aside0.mk (Kd.R_mono (ok' := fun k_ => some k_ ≠ (.slice Ao43 t112.length co43 : Value).ownBlock) (Kd.R_keptB (HO_6.out) hkp (fun k_ hk_ hs_ => (hk_) hs_)) (fun k_ hk_ => hk_.1)); have n1_ := Aside0.mk (Kd.R_reok rfl hy0 (fun k_ e_ => HO_9.out.1 k_ e_)); have n2_ := Aside0.mk (hb); clear HO_6; clear HO_9; clear HB; have HO_6 := n0_; have HO_9 := n1_; have HB := n2_; clear n0_ n1_ n2_; (try clear hb); (try clear hkp); (try clear hy0)) | ((with_reducible refine gate_callee (f := 18) rfl ?_); refine goesL_ (some 71) rfl rfl Try.func18 (by kernel_rfl) rfl #[.slice Ao43 t125.length co43, .int .i64 1] rfl (by (try simp only [List.map_toArray, List.map_cons, List.map_nil]); first | done | (rw [show t125.length = t112.length from (Kd.R_reads' HO_9.out).1.symm] <;> rfl) | rfl | (simp only [List.length_drop, List.length_take]; rfl)) ?_; (with_reducible refine (laws_heldIntS.calls kj26 _ _ t125 1 t126 _ ?side1 ?side2 A41.out).mono ?_); (case side1 => repeat (first | exact (Kd.R_reads' HO_9.out).2.2 | (with_reducible refine Kd.C_alloc ?_ _) | (with_reducible refine Kd.C_drewN ?_ _) | (with_reducible refine Kd.C_drew ?_))); (case side2 => rw [show t125.length = t112.length from (Kd.R_reads' HO_9.out).1.symm]; exact (Kd.R_reads' HO_9.out).2.1); rintro e w' ⟨rfl, ⟨nd, rfl⟩⟩; refine ⟨_, rfl, ?_⟩))
                    go_ret
                    exact ⟨by first | rfl | (simp [errW_none, errW_some] <;> rfl) | (simp [*, errW_none, errW_some] <;> rfl), by repeat (first | (with_reducible first | exact HB.out | apply below_alloc | apply pw_below_drewN | apply below_drew1) | exact HB.out)⟩
                  · rw [if_neg c42] at H
                    have c42b0 : decide (t126 < 0) = false := decide_eq_false c42
                    clear c42
                    by_cases c45 : t126 = t124
                    · rw [if_pos c45] at H
                      have c45b0 : (t126 == t124) = true := beq_iff_eq.mpr c45
                      have c45b1 : (t126 != t124) = false := bne_eq_false_iff_eq.mpr c45
                      clear c45
                      replace H := Option.bind_eq_some_iff.mp H
                      obtain ⟨t127, A460, H⟩ := H
                      replace H : ((impl_EndRegions.f a0 t127).bind fun bt130 => ((laws_eqIntS.f kj26 bt130.1 t105).bind fun t134 => (if t134 = true then (laws_FnExactEndRegions.j2 kj26 t125 t124 (bt130.2 != t106)) else (laws_FnExactEndRegions.j2 kj26 t125 t124 true)))) = some r := H
                      have A46 := Aside0.mk A460
                      clear A460
                      replace H := Option.bind_eq_some_iff.mp H
                      obtain ⟨⟨t130, t131⟩, A470, H⟩ := H
                      replace H : ((laws_eqIntS.f kj26 t130 t105).bind fun t134 => (if t134 = true then (laws_FnExactEndRegions.j2 kj26 t125 t124 (t131 != t106)) else (laws_FnExactEndRegions.j2 kj26 t125 t124 true))) = some r := H
                      have A47 := Aside0.mk A470
                      clear A470
                      have HC48 := Aside0.mk H
                      clear H
                      obtain ⟨Ao49, co49, eo49⟩ := Kd.R_slice HO_9.out
                      subst eo49
                      go_upto_region 25 with (first | ((with_reducible refine gate_callee (f := 17) rfl ?_); refine goesL_ (some 68) rfl rfl Try.func17 (by kernel_rfl) rfl #[.slice Ao49 t112.length co49, .int .i64 1] rfl (by (try simp only [List.map_toArray, List.map_cons, List.map_nil]); first | done | rfl | (simp only [List.length_drop, List.length_take]; rfl)) ?_; (with_reducible refine (laws_markIntS.calls kj26 (fun k_ => some k_ = (.slice Ao49 t112.length co49 : Value).ownBlock) (.slice Ao49 t112.length co49) t112 1 t124 t125 w _ ?side1 ?side2 A40.out).mono ?_); (case side1 => repeat (first | (with_reducible first | exact HB.out | apply below_alloc | apply pw_below_drewN | apply below_drew1) | exact HB.out)); (case side2 => exact Kd.R_tight rfl HO_9.out); rintro e w50 ⟨rfl, hy0, hb, hkp⟩; refine ⟨_, rfl, ?_⟩; have n0_ := Aside0.mk (Kd.R_mono (ok' := fun k_ => some k_ ≠ (.slice Ao49 t112.length co49 : Value).ownBlock) (Kd.R_keptB (HO_6.out) hkp (fun k_ hk_ hs_ => (hk_) hs_)) (fun k_ hk_ => hk_.1)); have n1_ := Aside0.mk (Kd.R_reok rfl hy0 (fun k_ e_ => HO_9.out.1 k_ e_)); have n2_ := Aside0.mk (hb); clear HO_6; clear HO_9; clear HB; have HO_6 := n0_; have HO_9 := n1_; have HB := n2_; clear n0_ n1_ n2_; (try clear hb); (try clear hkp); (try clear hy0)) | ((with_reducible refine gate_callee (f := 18) rfl ?_); refine goesL_ (some 71) rfl rfl Try.func18 (by kernel_rfl) rfl #[.slice Ao49 t125.length co49, .int .i64 1] rfl (by (try simp only [List.map_toArray, List.map_cons, List.map_nil]); first | done | (rw [show t125.length = t112.length from (Kd.R_reads' HO_9.out).1.symm] <;> rfl) | rfl | (simp only [List.length_drop, List.length_take]; rfl)) ?_; (with_reducible refine (laws_heldIntS.calls kj26 _ _ t125 1 t126 _ ?side1 ?side2 A41.out).mono ?_); (case side1 => repeat (first | exact (Kd.R_reads' HO_9.out).2.2 | (with_reducible refine Kd.C_alloc ?_ _) | (with_reducible refine Kd.C_drewN ?_ _) | (with_reducible refine Kd.C_drew ?_))); (case side2 => rw [show t125.length = t112.length from (Kd.R_reads' HO_9.out).1.symm]; exact (Kd.R_reads' HO_9.out).2.1); rintro e w' ⟨rfl, ⟨nd, rfl⟩⟩; refine ⟨_, rfl, ?_⟩) | ((with_reducible refine gate_callee (f := 12) rfl ?_); refine goesL_ (some 80) rfl rfl Try.func12 (by kernel_rfl) rfl #[.slice A1 l1.length c1] rfl (by (try simp only [List.map_toArray, List.map_cons, List.map_nil]); first | done | rfl | (simp only [List.length_drop, List.length_take]; rfl)) ?_; (with_reducible refine (laws_toChordS.calls kj26 _ _ l1 t127 _ ?side1 ?side2 A46.out).mono ?_); (case side1 => repeat (first | exact (Kd.C_below HR1.out (by repeat (first | (with_reducible first | exact HB.out | apply below_alloc | apply pw_below_drewN | apply below_drew1) | exact HB.out))) | (with_reducible refine Kd.C_alloc ?_ _) | (with_reducible refine Kd.C_drewN ?_ _) | (with_reducible refine Kd.C_drew ?_))); (case side2 => exact HC1.out); rintro e w51 ⟨v128, rfl, ho0, hb⟩; refine ⟨_, rfl, ?_⟩; have n0_ := Aside0.mk (Kd.R_below (by (with_reducible repeat (first | apply Kd.R_alloc | apply Kd.R_drewN | apply Kd.R_drew)); exact HO_6.out) hb); have n1_ := Aside0.mk (Kd.R_below (by (with_reducible repeat (first | apply Kd.R_alloc | apply Kd.R_drewN | apply Kd.R_drew)); exact HO_9.out) hb); have n2_ := Aside0.mk (Kd.R_lower ho0 (below_size (by repeat (first | (with_reducible first | exact HB.out | apply below_alloc | apply pw_below_drewN | apply below_drew1) | exact HB.out)))); have n3_ := Aside0.mk (below_step (by repeat (first | (with_reducible first | exact HB.out | apply below_alloc | apply pw_below_drewN | apply below_drew1) | exact HB.out)) hb); clear HO_6; clear HO_9; clear HB; have HO_6 := n0_; have HO_9 := n1_; have HO129 := n2_; have HB := n3_; clear n0_ n1_ n2_ n3_; (try clear hb); (try clear hb2); (try clear hk); (try clear hi); (try clear ho0); obtain ⟨Ao52, co52, eo52⟩ := Kd.R_slice HO129.out; subst eo52) | ((with_reducible refine gate_callee (f := 30) rfl ?_); refine goesL_ (some 81) rfl rfl Try.func30 (by kernel_rfl) rfl #[.int .i64 a0, .slice Ao52 t127.length co52] rfl (by (try simp only [List.map_toArray, List.map_cons, List.map_nil]); first | done | rfl | (simp only [List.length_drop, List.length_take]; rfl)) ?_; (with_reducible refine (impl_EndRegions.calls a0 _ _ t127 t130 t131 _ ?side1 ?side2 A47.out).mono ?_); (case side1 => repeat (first | exact (Kd.R_reads' HO129.out).2.2 | (with_reducible refine Kd.C_alloc ?_ _) | (with_reducible refine Kd.C_drewN ?_ _) | (with_reducible refine Kd.C_drew ?_))); (case side2 => exact (Kd.R_reads' HO129.out).2.1); rintro e w53 ⟨v132, rfl, ho0, hb⟩; refine ⟨_, rfl, ?_⟩; have n0_ := Aside0.mk (Kd.R_elder' (by (with_reducible repeat (first | apply Kd.R_alloc | apply Kd.R_drewN | apply Kd.R_drew)); exact HO_6.out) (Kd.R_base ho0) hb); have n1_ := Aside0.mk (Kd.R_elder' (by (with_reducible repeat (first | apply Kd.R_alloc | apply Kd.R_drewN | apply Kd.R_drew)); exact HO_9.out) (Kd.R_base ho0) hb); have n2_ := Aside0.mk (Kd.R_below (by (with_reducible repeat (first | apply Kd.R_alloc | apply Kd.R_drewN | apply Kd.R_drew)); exact HO129.out) hb); have n3_ := Aside0.mk (Kd.R_lower (Kd.R_new' (Kd.R_new' ho0 (Kd.R_lt (by (with_reducible repeat (first | apply Kd.R_alloc | apply Kd.R_drewN | apply Kd.R_drew)); exact HO_6.out))) (Kd.R_lt (by (with_reducible repeat (first | apply Kd.R_alloc | apply Kd.R_drewN | apply Kd.R_drew)); exact HO_9.out))) (below_size (by repeat (first | (with_reducible first | exact HB.out | apply below_alloc | apply pw_below_drewN | apply below_drew1) | exact HB.out)))); have n4_ := Aside0.mk (below_step (by repeat (first | (with_reducible first | exact HB.out | apply below_alloc | apply pw_below_drewN | apply below_drew1) | exact HB.out)) hb); clear HO_6; clear HO_9; clear HO129; clear HB; have HO_6 := n0_; have HO_9 := n1_; have HO129 := n2_; have HO133 := n3_; have HB := n4_; clear n0_ n1_ n2_ n3_ n4_; (try clear hb); (try clear hb2); (try clear hk); (try clear hi); (try clear ho0)))
                      (try simp only [Act.put, List.setIfInBounds_toArray, List.set_cons_zero, List.set_cons_succ])
                      go_cut [92] (fun v92 wc => ∃ (kq : Nat) (x92_47 : Bool), v92 = .bool x92_47 ∧ Aside0 (laws_FnExactEndRegions.j2 kq t125 t124 x92_47 = some r) ∧ Aside0 (kq ≤ kj26) ∧ Aside0 (Kd.R (Kd.int .i64) 3 wc w.heap.size (fun _ => True) (.slice Ao49 t112.length co49) t125) ∧ Aside0 (Below w.heap.size w wc))
                      case first =>
                        have H := HC48.out
                        clear HC48
                        replace H := Option.bind_eq_some_iff.mp H
                        obtain ⟨t134, A540, H⟩ := H
                        replace H : (if t134 = true then (laws_FnExactEndRegions.j2 kj26 t125 t124 (t131 != t106)) else (laws_FnExactEndRegions.j2 kj26 t125 t124 true)) = some r := H
                        have A54 := Aside0.mk A540
                        clear A540
                        by_cases c55 : t134 = true
                        · subst c55
                          have H1 : (laws_FnExactEndRegions.j2 kj26 t125 t124 (t131 != t106)) = some r := by rw [if_pos rfl] at H; exact H
                          clear H
                          have H := H1
                          clear H1
                          have H' := Aside0.mk H
                          clear H
                          obtain ⟨Ao56, co56, eo56⟩ := Kd.R_slice HO133.out
                          subst eo56
                          obtain ⟨Ao57, co57, eo57⟩ := Kd.R_slice HO_6.out
                          subst eo57
                          go_wp2_with (first | ((with_reducible refine gate_callee (f := 14) rfl ?_); refine goesL_ (some 86) rfl rfl Try.func14 (by kernel_rfl) rfl #[.slice Ao56 t130.length co56, .slice Ao57 t105.length co57] rfl (by (try simp only [List.map_toArray, List.map_cons, List.map_nil]); first | done | rfl | (simp only [List.length_drop, List.length_take]; rfl)) ?_; (with_reducible refine (laws_eqIntS.calls kj26 _ _ t130 _ _ t105 true _ ?side1 ?side2 ?side3 ?side4 A54.out).mono ?_); (case side1 => repeat (first | exact (Kd.R_reads' HO133.out).2.2 | (with_reducible refine Kd.C_alloc ?_ _) | (with_reducible refine Kd.C_drewN ?_ _) | (with_reducible refine Kd.C_drew ?_))); (case side2 => exact (Kd.R_reads' HO133.out).2.1); (case side3 => repeat (first | exact (Kd.R_reads' HO_6.out).2.2 | (with_reducible refine Kd.C_alloc ?_ _) | (with_reducible refine Kd.C_drewN ?_ _) | (with_reducible refine Kd.C_drew ?_))); (case side4 => exact (Kd.R_reads' HO_6.out).2.1); rintro e w' ⟨rfl, ⟨nd, rfl⟩⟩; refine ⟨_, rfl, ?_⟩))
                          go_meet
                          case rel => exact ⟨_, ((t131 != t106)), (by first | rfl | (simp; done) | (simp [*]; done)), H', ⟨by have := HJ8.out; have := HJ26.out; first | omega | exact Nat.le_refl _⟩, ⟨by (with_reducible repeat (first | apply Kd.R_alloc | apply Kd.R_drewN | apply Kd.R_drew)); exact Kd.R_mono HO_9.out (fun _ hk => trivial)⟩, ⟨by repeat (first | (with_reducible first | exact HB.out | apply below_alloc | apply pw_below_drewN | apply below_drew1) | exact HB.out)⟩⟩
                        · replace c55 := Bool.eq_false_iff.mpr c55
                          subst c55
                          have H1 : (laws_FnExactEndRegions.j2 kj26 t125 t124 true) = some r := by rw [if_neg (show ¬ (false = true) by decide)] at H; exact H
                          clear H
                          have H := H1
                          clear H1
                          have H' := Aside0.mk H
                          clear H
                          obtain ⟨Ao58, co58, eo58⟩ := Kd.R_slice HO133.out
                          subst eo58
                          obtain ⟨Ao59, co59, eo59⟩ := Kd.R_slice HO_6.out
                          subst eo59
                          go_wp2_with (first | ((with_reducible refine gate_callee (f := 14) rfl ?_); refine goesL_ (some 86) rfl rfl Try.func14 (by kernel_rfl) rfl #[.slice Ao58 t130.length co58, .slice Ao59 t105.length co59] rfl (by (try simp only [List.map_toArray, List.map_cons, List.map_nil]); first | done | rfl | (simp only [List.length_drop, List.length_take]; rfl)) ?_; (with_reducible refine (laws_eqIntS.calls kj26 _ _ t130 _ _ t105 false _ ?side1 ?side2 ?side3 ?side4 A54.out).mono ?_); (case side1 => repeat (first | exact (Kd.R_reads' HO133.out).2.2 | (with_reducible refine Kd.C_alloc ?_ _) | (with_reducible refine Kd.C_drewN ?_ _) | (with_reducible refine Kd.C_drew ?_))); (case side2 => exact (Kd.R_reads' HO133.out).2.1); (case side3 => repeat (first | exact (Kd.R_reads' HO_6.out).2.2 | (with_reducible refine Kd.C_alloc ?_ _) | (with_reducible refine Kd.C_drewN ?_ _) | (with_reducible refine Kd.C_drew ?_))); (case side4 => exact (Kd.R_reads' HO_6.out).2.1); rintro e w' ⟨rfl, ⟨nd, rfl⟩⟩; refine ⟨_, rfl, ?_⟩))
                          go_meet
                          case rel => exact ⟨_, (true), (by first | rfl | (simp; done) | (simp [*]; done)), H', ⟨by have := HJ8.out; have := HJ26.out; first | omega | exact Nat.le_refl _⟩, ⟨by (with_reducible repeat (first | apply Kd.R_alloc | apply Kd.R_drewN | apply Kd.R_drew)); exact Kd.R_mono HO_9.out (fun _ hk => trivial)⟩, ⟨by repeat (first | (with_reducible first | exact HB.out | apply below_alloc | apply pw_below_drewN | apply below_drew1) | exact HB.out)⟩⟩
                      case rest =>
                        clear HC48
                        try clear c1
                        try clear c2
                        try clear p2
                        try clear c3
                        try clear c4
                        try clear c4b0
                        try clear c5
                        try clear c7
                        try clear c10
                        try clear c12
                        try clear c14
                        try clear c15
                        try clear c16
                        try clear c17
                        try clear c18
                        try clear c22
                        try clear c25
                        try clear c29
                        try clear c30
                        try clear c32
                        try clear c32b0
                        try clear c34
                        try clear c39
                        try clear c42
                        try clear c42b0
                        try clear c45
                        try clear c45b0
                        try clear c45b1
                        try clear c55
                        try clear p2
                        obtain ⟨kq, x92_47, rfl, HA, HJ47, HO_9, HB⟩ := hcut
                        have hl9_47 := (Kd.R_reads' HO_9.out).1
                        rw [hl9_47] at HO_9
                        (try simp only [hl9_47])
                        cases kq with
                        | zero => exact absurd HA.out (by simp [laws_FnExactEndRegions.j2])
                        | succ kj47 =>
                          have H := HA.out
                          clear HA
                          simp only [laws_FnExactEndRegions.j2] at H
                          by_cases c60 : x92_47 = true
                          · subst c60
                            have H1 : (some false) = some r := by rw [if_pos rfl] at H; exact H
                            clear H
                            have H := H1
                            clear H1
                            obtain rfl := Option.some.inj H
                            go_wp2
                            go_ret
                            exact ⟨by first | rfl | (simp [errW_none, errW_some] <;> rfl) | (simp [*, errW_none, errW_some] <;> rfl), by repeat (first | (with_reducible first | exact HB.out | apply below_alloc | apply pw_below_drewN | apply below_drew1) | exact HB.out)⟩
                          · replace c60 := Bool.eq_false_iff.mpr c60
                            subst c60
                            have H1 : ((laws_heldIntS.f kj47 t125 1).bind fun t135 => (if t135 < 0 then (some false) else (if t135 = t124 then (some true) else (some false)))) = some r := by rw [if_neg (show ¬ (false = true) by decide)] at H; exact H
                            clear H
                            have H := H1
                            clear H1
                            replace H := Option.bind_eq_some_iff.mp H
                            obtain ⟨t135, A610, H⟩ := H
                            replace H : (if t135 < 0 then (some false) else (if t135 = t124 then (some true) else (some false))) = some r := H
                            have A61 := Aside0.mk A610
                            clear A610
                            by_cases c62 : t135 < 0
                            · rw [if_pos c62] at H
                              have c62b0 : decide (t135 < 0) = true := decide_eq_true c62
                              clear c62
                              obtain rfl := Option.some.inj H
                              go_wp2_with (first | ((with_reducible refine gate_callee (f := 18) rfl ?_); refine goesL_ (some 95) rfl rfl Try.func18 (by kernel_rfl) rfl #[.slice Ao49 t125.length co49, .int .i64 1] rfl (by (try simp only [List.map_toArray, List.map_cons, List.map_nil]); first | done | rfl | (simp only [List.length_drop, List.length_take]; rfl)) ?_; (with_reducible refine (laws_heldIntS.calls kj47 _ _ t125 1 t135 _ ?side1 ?side2 A61.out).mono ?_); (case side1 => repeat (first | exact (Kd.R_reads' HO_9.out).2.2 | (with_reducible refine Kd.C_alloc ?_ _) | (with_reducible refine Kd.C_drewN ?_ _) | (with_reducible refine Kd.C_drew ?_))); (case side2 => exact (Kd.R_reads' HO_9.out).2.1); rintro e w' ⟨rfl, ⟨nd, rfl⟩⟩; refine ⟨_, rfl, ?_⟩))
                              go_ret
                              exact ⟨by first | rfl | (simp [errW_none, errW_some] <;> rfl) | (simp [*, errW_none, errW_some] <;> rfl), by repeat (first | (with_reducible first | exact HB.out | apply below_alloc | apply pw_below_drewN | apply below_drew1) | exact HB.out)⟩
                            · rw [if_neg c62] at H
                              have c62b0 : decide (t135 < 0) = false := decide_eq_false c62
                              clear c62
                              by_cases c63 : t135 = t124
                              · rw [if_pos c63] at H
                                have c63b0 : (t135 == t124) = true := beq_iff_eq.mpr c63
                                have c63b1 : (t135 != t124) = false := bne_eq_false_iff_eq.mpr c63
                                clear c63
                                obtain rfl := Option.some.inj H
                                go_wp2_with (first | ((with_reducible refine gate_callee (f := 18) rfl ?_); refine goesL_ (some 95) rfl rfl Try.func18 (by kernel_rfl) rfl #[.slice Ao49 t125.length co49, .int .i64 1] rfl (by (try simp only [List.map_toArray, List.map_cons, List.map_nil]); first | done | rfl | (simp only [List.length_drop, List.length_take]; rfl)) ?_; (with_reducible refine (laws_heldIntS.calls kj47 _ _ t125 1 t135 _ ?side1 ?side2 A61.out).mono ?_); (case side1 => repeat (first | exact (Kd.R_reads' HO_9.out).2.2 | (with_reducible refine Kd.C_alloc ?_ _) | (with_reducible refine Kd.C_drewN ?_ _) | (with_reducible refine Kd.C_drew ?_))); (case side2 => exact (Kd.R_reads' HO_9.out).2.1); rintro e w' ⟨rfl, ⟨nd, rfl⟩⟩; refine ⟨_, rfl, ?_⟩))
                                go_ret
                                exact ⟨by first | rfl | (simp [errW_none, errW_some] <;> rfl) | (simp [*, errW_none, errW_some] <;> rfl), by repeat (first | (with_reducible first | exact HB.out | apply below_alloc | apply pw_below_drewN | apply below_drew1) | exact HB.out)⟩
                              · rw [if_neg c63] at H
                                have c63b0 : (t135 == t124) = false := beq_eq_false_iff_ne.mpr c63
                                have c63b1 : (t135 != t124) = true := bne_iff_ne.mpr c63
                                obtain rfl := Option.some.inj H
                                go_wp2_with (first | ((with_reducible refine gate_callee (f := 18) rfl ?_); refine goesL_ (some 95) rfl rfl Try.func18 (by kernel_rfl) rfl #[.slice Ao49 t125.length co49, .int .i64 1] rfl (by (try simp only [List.map_toArray, List.map_cons, List.map_nil]); first | done | rfl | (simp only [List.length_drop, List.length_take]; rfl)) ?_; (with_reducible refine (laws_heldIntS.calls kj47 _ _ t125 1 t135 _ ?side1 ?side2 A61.out).mono ?_); (case side1 => repeat (first | exact (Kd.R_reads' HO_9.out).2.2 | (with_reducible refine Kd.C_alloc ?_ _) | (with_reducible refine Kd.C_drewN ?_ _) | (with_reducible refine Kd.C_drew ?_))); (case side2 => exact (Kd.R_reads' HO_9.out).2.1); rintro e w' ⟨rfl, ⟨nd, rfl⟩⟩; refine ⟨_, rfl, ?_⟩))
                                go_ret
                                exact ⟨by first | rfl | (simp [errW_none, errW_some] <;> rfl) | (simp [*, errW_none, errW_some] <;> rfl), by repeat (first | (with_reducible first | exact HB.out | apply below_alloc | apply pw_below_drewN | apply below_drew1) | exact HB.out)⟩
                    · rw [if_neg c45] at H
                      have c45b0 : (t126 == t124) = false := beq_eq_false_iff_ne.mpr c45
                      have c45b1 : (t126 != t124) = true := bne_iff_ne.mpr c45
                      obtain rfl := Option.some.inj H
                      obtain ⟨Ao64, co64, eo64⟩ := Kd.R_slice HO_9.out
                      subst eo64
                      go_wp2_with (first | ((with_reducible refine gate_callee (f := 17) rfl ?_); refine goesL_ (some 68) rfl rfl Try.func17 (by kernel_rfl) rfl #[.slice Ao64 t112.length co64, .int .i64 1] rfl (by (try simp only [List.map_toArray, List.map_cons, List.map_nil]); first | done | rfl | (simp only [List.length_drop, List.length_take]; rfl)) ?_; (with_reducible refine (laws_markIntS.calls kj26 (fun k_ => some k_ = (.slice Ao64 t112.length co64 : Value).ownBlock) (.slice Ao64 t112.length co64) t112 1 t124 t125 w _ ?side1 ?side2 A40.out).mono ?_); (case side1 => repeat (first | (with_reducible first | exact HB.out | apply below_alloc | apply pw_below_drewN | apply below_drew1) | exact HB.out)); (case side2 => exact Kd.R_tight rfl HO_9.out); rintro e w65 ⟨rfl, hy0, hb, hkp⟩; refine ⟨_, rfl, ?_⟩; have n0_ := Aside0.mk (Kd.R_mono (ok' := fun k_ => some k_ ≠ (.slice Ao64 t112.length co64 : Value).ownBlock) (Kd.R_keptB (HO_6.out) hkp (fun k_ hk_ hs_ => (hk_) hs_)) (fun k_ hk_ => hk_.1)); have n1_ := Aside0.mk (Kd.R_reok rfl hy0 (fun k_ e_ => HO_9.out.1 k_ e_)); have n2_ := Aside0.mk (hb); clear HO_6; clear HO_9; clear HB; have HO_6 := n0_; have HO_9 := n1_; have HB := n2_; clear n0_ n1_ n2_; (try clear hb); (try clear hkp); (try clear hy0)) | ((with_reducible refine gate_callee (f := 18) rfl ?_); refine goesL_ (some 71) rfl rfl Try.func18 (by kernel_rfl) rfl #[.slice Ao64 t125.length co64, .int .i64 1] rfl (by (try simp only [List.map_toArray, List.map_cons, List.map_nil]); first | done | (rw [show t125.length = t112.length from (Kd.R_reads' HO_9.out).1.symm] <;> rfl) | rfl | (simp only [List.length_drop, List.length_take]; rfl)) ?_; (with_reducible refine (laws_heldIntS.calls kj26 _ _ t125 1 t126 _ ?side1 ?side2 A41.out).mono ?_); (case side1 => repeat (first | exact (Kd.R_reads' HO_9.out).2.2 | (with_reducible refine Kd.C_alloc ?_ _) | (with_reducible refine Kd.C_drewN ?_ _) | (with_reducible refine Kd.C_drew ?_))); (case side2 => rw [show t125.length = t112.length from (Kd.R_reads' HO_9.out).1.symm]; exact (Kd.R_reads' HO_9.out).2.1); rintro e w' ⟨rfl, ⟨nd, rfl⟩⟩; refine ⟨_, rfl, ?_⟩))
                      go_ret
                      exact ⟨by first | rfl | (simp [errW_none, errW_some] <;> rfl) | (simp [*, errW_none, errW_some] <;> rfl), by repeat (first | (with_reducible first | exact HB.out | apply below_alloc | apply pw_below_drewN | apply below_drew1) | exact HB.out)⟩
          · replace c25 := Bool.eq_false_iff.mpr c25
            subst c25
            have H1 : (some false) = some r := by rw [if_neg (show ¬ (false = true) by decide)] at H; exact H
            clear H
            have H := H1
            clear H1
            obtain rfl := Option.some.inj H
            go_wp2_with (first | ((with_reducible refine gate_callee (f := 12) rfl ?_); refine goesL_ (some 47) rfl rfl Try.func12 (by kernel_rfl) rfl #[.slice A1 l1.length c1] rfl (by (try simp only [List.map_toArray, List.map_cons, List.map_nil]); first | done | rfl | (simp only [List.length_drop, List.length_take]; rfl)) ?_; (with_reducible refine (laws_toChordS.calls kj8 _ _ l1 t117 _ ?side1 ?side2 A23.out).mono ?_); (case side1 => repeat (first | exact (Kd.C_below HR1.out HB.out) | (with_reducible refine Kd.C_alloc ?_ _) | (with_reducible refine Kd.C_drewN ?_ _) | (with_reducible refine Kd.C_drew ?_))); (case side2 => exact HC1.out); rintro e w66 ⟨v118, rfl, ho0, hb⟩; refine ⟨_, rfl, ?_⟩; have n0_ := Aside0.mk (Kd.R_below (by (with_reducible repeat (first | apply Kd.R_alloc | apply Kd.R_drewN | apply Kd.R_drew)); exact HO_6.out) hb); have n1_ := Aside0.mk (Kd.R_elder' (by (with_reducible repeat (first | apply Kd.R_alloc | apply Kd.R_drewN | apply Kd.R_drew)); exact HO_8.out) (Kd.R_base ho0) hb); have n2_ := Aside0.mk (Kd.R_below (by (with_reducible repeat (first | apply Kd.R_alloc | apply Kd.R_drewN | apply Kd.R_drew)); exact HO_9.out) hb); have n3_ := Aside0.mk (Kd.R_lower (Kd.R_new' ho0 (Kd.R_lt (by (with_reducible repeat (first | apply Kd.R_alloc | apply Kd.R_drewN | apply Kd.R_drew)); exact HO_8.out))) (below_size (by repeat (first | (with_reducible first | exact HB.out | apply below_alloc | apply pw_below_drewN | apply below_drew1) | exact HB.out)))); have n4_ := Aside0.mk (below_step (by repeat (first | (with_reducible first | exact HB.out | apply below_alloc | apply pw_below_drewN | apply below_drew1) | exact HB.out)) hb); clear HO_6; clear HO_8; clear HO_9; clear HB; have HO_6 := n0_; have HO_8 := n1_; have HO_9 := n2_; have HO119 := n3_; have HB := n4_; clear n0_ n1_ n2_ n3_ n4_; (try clear hb); (try clear hb2); (try clear hk); (try clear hi); (try clear ho0); obtain ⟨Ao67, co67, eo67⟩ := Kd.R_slice HO119.out; subst eo67) | ((with_reducible refine gate_callee (f := 15) rfl ?_); refine goesL_ (some 48) rfl rfl Try.func15 (by kernel_rfl) rfl #[.slice Ao14 t109.length co14, .slice Ao67 t117.length co67] rfl (by (try simp only [List.map_toArray, List.map_cons, List.map_nil]); first | done | rfl | (simp only [List.length_drop, List.length_take]; rfl)) ?_; (with_reducible refine (laws_eqChordS.calls kj8 _ _ t109 _ _ t117 false _ ?side1 ?side2 ?side3 ?side4 A24.out).mono ?_); (case side1 => repeat (first | exact (Kd.R_reads' HO_8.out).2.2 | (with_reducible refine Kd.C_alloc ?_ _) | (with_reducible refine Kd.C_drewN ?_ _) | (with_reducible refine Kd.C_drew ?_))); (case side2 => exact (Kd.R_reads' HO_8.out).2.1); (case side3 => repeat (first | exact (Kd.R_reads' HO119.out).2.2 | (with_reducible refine Kd.C_alloc ?_ _) | (with_reducible refine Kd.C_drewN ?_ _) | (with_reducible refine Kd.C_drew ?_))); (case side4 => exact (Kd.R_reads' HO119.out).2.1); rintro e w68 ⟨rfl, hb⟩; refine ⟨_, rfl, ?_⟩; have n0_ := Aside0.mk (Kd.R_below (by (with_reducible repeat (first | apply Kd.R_alloc | apply Kd.R_drewN | apply Kd.R_drew)); exact HO_6.out) hb); have n1_ := Aside0.mk (Kd.R_below (by (with_reducible repeat (first | apply Kd.R_alloc | apply Kd.R_drewN | apply Kd.R_drew)); exact HO_8.out) hb); have n2_ := Aside0.mk (Kd.R_below (by (with_reducible repeat (first | apply Kd.R_alloc | apply Kd.R_drewN | apply Kd.R_drew)); exact HO_9.out) hb); have n3_ := Aside0.mk (Kd.R_below (by (with_reducible repeat (first | apply Kd.R_alloc | apply Kd.R_drewN | apply Kd.R_drew)); exact HO119.out) hb); have n4_ := Aside0.mk (below_step (by repeat (first | (with_reducible first | exact HB.out | apply below_alloc | apply pw_below_drewN | apply below_drew1) | exact HB.out)) hb); clear HO_6; clear HO_8; clear HO_9; clear HO119; clear HB; have HO_6 := n0_; have HO_8 := n1_; have HO_9 := n2_; have HO119 := n3_; have HB := n4_; clear n0_ n1_ n2_ n3_ n4_; (try clear hb); (try clear hb2); (try clear hk); (try clear hi)))
            go_ret
            exact ⟨by first | rfl | (simp [errW_none, errW_some] <;> rfl) | (simp [*, errW_none, errW_some] <;> rfl), by repeat (first | (with_reducible first | exact HB.out | apply below_alloc | apply pw_below_drewN | apply below_drew1) | exact HB.out)⟩
end Go.Proofs.Yteeghncofacmhaa.Q
end
section
/- EndRegions: both sides tell the same; the law is true. -/
namespace Go.Proofs.Yteeghncofacmhaa.Q
open Go.RowKit Go.Proofs.YteeghncofacmhaaW.PrintWords Go.Proofs.YteeghncofacmhaaW.PrintLast Go.Proofs.YteeghncofacmhaaW.PrintMore
set_option linter.unusedVariables false
set_option linter.unusedSimpArgs false
theorem endsRes_len (n : Int) (l : List Ch) : (endsRes n l).1.length ≤ l.length + 1 := by
  unfold endsRes
  split
  · show (onesOf _).length ≤ _
    unfold onesOf
    refine Nat.le_trans (List.length_filter_le _ _) ?_
    simp [ints, talW_len]
  · simp
theorem FnExactEndRegions_ev (n : Int) (l : List S66) (hl : l.length ≤ 9223372036854775807) : Ev (fun k => laws_FnExactEndRegions.f k n l) true := by
  unfold laws_FnExactEndRegions.f
  rw [szChordS_eq l hl]
  simp only [Option.bind_some]
  by_cases hbig : 1048576 < l.length
  · exact Ev.congr (fun k => by rw [if_pos hbig, if_pos (by decide)]) (Ev.now true)
  · have hl2 : l.length ≤ 1048576 := by omega
    have hcl := toCh_length l
    have hto := toChordS_ev l hl2
    have hsz := endsRes_len n (toCh l)
    have hsp : Ev (fun _ => spec_EndRegions.f n (toCh l)) (endsRes n (toCh l)) := Ev.const fun _ => by unfold spec_EndRegions.f; rw [if_pos (by omega)]
    have him : Ev (fun _ => impl_EndRegions.f n (toCh l)) (endsRes n (toCh l)) := Ev.const fun _ => by unfold impl_EndRegions.f; rw [if_pos (by omega)]
    obtain ⟨m, l', hm0, hmk⟩ := markChordS_ev (toCh l) (by omega)
    have hec := eqChordS_refl (toCh l) (by omega)
    generalize endsRes n (toCh l) = sz at hsz hsp him
    have hei := eqIntS_refl sz.1 (by omega)
    have hmi := markIntS_ev sz.1 1 (by omega) ⟨by omega, by omega⟩
    have hhe := heldIntS_ev sz.1.length 1 (by omega) ⟨by omega, by omega⟩
    refine Ev.congr (fun k => by rw [if_neg hbig, if_neg (by omega)]) ?_
    refine Ev.bind hto (Ev.bind hsp (Ev.bind hto (Ev.bind him (Ev.bind hei ?_))))
    refine Ev.congr (f := fun k => laws_FnExactEndRegions.j0 k n l sz.1 sz.2 (toCh l) sz.1 sz.2 false) (fun k => by rw [if_pos rfl]; simp) ?_
    refine Ev.step (fun k => by simp only [laws_FnExactEndRegions.j0]; rw [if_neg (by simp)]) ?_
    refine Ev.bind hto (Ev.bind hec ?_)
    refine Ev.congr (fun k => by rw [if_pos rfl]) (Ev.bind hmk ?_)
    refine Ev.congr (fun k => by rw [if_neg (by omega)]) (Ev.bind hei ?_)
    refine Ev.congr (f := fun k => laws_FnExactEndRegions.j1 k n l sz.1 sz.2 sz.1 false) (fun k => by rw [if_pos rfl]; simp) ?_
    refine Ev.step (fun k => by simp only [laws_FnExactEndRegions.j1]; rw [if_neg (by simp)]) ?_
    refine Ev.bind hmi (Ev.bind hhe ?_)
    refine Ev.congr (fun k => by rw [if_neg (by omega), if_pos rfl]) (Ev.bind hto (Ev.bind him (Ev.bind hei ?_)))
    refine Ev.congr (f := fun k => laws_FnExactEndRegions.j2 k (ints 1 sz.1.length) (1 + (sz.1.length : Int)) false) (fun k => by rw [if_pos rfl]; simp) ?_
    refine Ev.step (fun k => by simp only [laws_FnExactEndRegions.j2]; rw [if_neg (by simp)]) ?_
    refine Ev.bind hhe ?_
    exact Ev.congr (fun k => by rw [if_neg (by omega), if_pos rfl]) (Ev.now true)
theorem FnExactEndRegions_true (a0 : Int) (A : Option Addr) (c : Nat) (l : List S66) (w : World) (hr : Kd.C k66 w A l.length l) (hc : l.length ≤ c) (hw : ∀ c ∈ l, (Lit.int .i64 c.f0).wf = true ∧ (Lit.int .i64 c.f1).wf = true) :
    Calls Try.prog 7 #[.int .i64 a0, .slice A l.length c] w fun e w' => e = .returned (.bool true) ∧ Below w.heap.size w w' := by
  obtain ⟨k, hk⟩ := FnExactEndRegions_ev a0 l hr.2.1
  exact laws_FnExactEndRegions.calls k a0 A c l true w hr hc (hk k (Nat.le_refl _))
end Go.Proofs.Yteeghncofacmhaa.Q
end
section
/- The row of FnExactEndRegions, lifted from its walk; no condition. -/
namespace Go.Proofs.Yteeghncofacmhaa.fnExactEndRegions
open Go.ChangeShapes Go.WideShapes Go.ChangeAt Go.RowKit
set_option linter.unusedVariables false
theorem own : ownKnob Try.prog.godebug = none := by kernel_rfl
theorem laidOut : laidOutB Try.prog = true := by kernel_rfl
set_option maxRecDepth 100000 in
theorem lifted (os : Os) (started : os.Started) (H : Type) (enc : TypeId × Value → H) :
    ReturnsInHanded {} Try.checked os 7 .any (Rows.fnExactEndRegionsSpec.pre6 enc Try.prog Try.f7 Rows.fnExactEndRegionsRow.domain false) (Rows.fnExactEndRegionsSpec.post enc Try.prog Try.f7 false true false false) := by
  refine returnsInHanded_of_change_sized (C := Try.checked) own started (by kernel_rfl) Try.func7
    (ChangeSpec.witness6 (enc := enc) (C := Try.checked) false ⟨#[], #[.int .i64 0, .slice none 0 0], []⟩ 8 (by kernel_rfl) (by kernel_rfl) (by kernel_rfl) (by kernel_rfl)) ?_
  intro W base args ds gs before hval0 hW hcnd hsz0 _
  have hval : ∀ (j : Nat) t v, Try.f7.params[j]? = some t → args[j]? = some v → Value.okWide Try.prog W .any base t v := hval0
  have hW' := hW
  obtain ⟨p, q, hA0, hV, rfl, hfz, hnd⟩ := hW
  have hA : DataW.TrodAll enc Try.prog W 0 (fun _ => true) true Try.f7.params.toList args.toList ds p := hA0
  rw [Try.params7] at hA hval
  obtain ⟨v0, vs0, d0, ds0, p0, q0, hargs, rfl, rfl, h0, r0⟩ := trodAll_cons hA
  obtain ⟨v1, vs1, d1, ds1, p1, q1, rfl, rfl, rfl, h1, r1⟩ := trodAll_cons r0
  obtain ⟨rfl, rfl, rfl⟩ := trodAll_nil r1
  obtain rfl : args = #[v0, v1] := by cases args; simp_all
  obtain ⟨rfl, rfl⟩ := trodVars_none hV
  obtain ⟨i0, rfl⟩ := okWide_int Try.underlying3 (hval 0 3 v0 rfl rfl)
  obtain ⟨a1, len1, cap1, rfl⟩ := okWide_slice Try.underlying22 (hval 1 22 v1 rfl rfl)
  have k0 := h0
  have lt0 : ∀ x ∈ p0, x.block < W.heap.size := by obtain ⟨m, hm⟩ := k0; exact DataW.trod_lt m _ _ _ hm
  have k1 := h1
  have lt1 : ∀ x ∈ p1, x.block < W.heap.size := by obtain ⟨m, hm⟩ := k1; exact DataW.trod_lt m _ _ _ hm
  obtain ⟨l, rfl, hcap, hC, hwf⟩ := Q.chords_of_trod h1
  clear hA0 hval0 hsz0
  refine (Q.FnExactEndRegions_true i0 a1 cap1 l W hC hcap hwf).mono fun e W' ⟨he, bel⟩ => ?_
  subst he
  exact ⟨_, rfl, _, _, _, [], _, [], hW', trodAll_mk1 (shut_bool Try.underlying4 _), (trodAll_cons_mk (Below.trod laidOut (by kernel_rfl) (of_decide_eq_true (by kernel_rfl)) k0 bel lt0) (trodAll_cons_mk (Below.trod laidOut (by kernel_rfl) (of_decide_eq_true (by kernel_rfl)) k1 bel lt1) trodAll_mk0)), rfl, bel.frame _, fun h => by cases h⟩
theorem over : Rows.fnExactEndRegionsRow.holds Try.pinned (OpenSpec.ofChange Rows.fnExactEndRegionsSpec) :=
  OpenClaim.holds_of_wide 7 Try.f7 rfl rfl rfl rfl rfl rfl rfl ⟨rfl, rfl, rfl, rfl, rfl⟩ rfl rfl rfl rfl rfl (by kernel_rfl) Try.func7 (by kernel_rfl)
    (of_decide_eq_true (by kernel_rfl)) (by unfold Func.isWrapper; first | (rw [if_pos (by decide +kernel)]; kernel_rfl) | (rw [if_neg (by decide +kernel)]; exact ⟨rfl, rfl⟩))
    (fun os started H enc _ => lifted os started H enc)
theorem proved : Rows.FnExactEndRegionsSaid := over
end Go.Proofs.Yteeghncofacmhaa.fnExactEndRegions
namespace Go.Proofs.Yteeghncofacmhaa
/-- The row, under a short name, for the claim. -/
theorem fnExactEndRegions_holds : Rows.FnExactEndRegionsSaid := fnExactEndRegions.proved
end Go.Proofs.Yteeghncofacmhaa
end
#print axioms Go.Proofs.Yteeghncofacmhaa.fnExactEndRegions_holds
