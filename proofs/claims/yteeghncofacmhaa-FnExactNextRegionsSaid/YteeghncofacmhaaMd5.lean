/- The proof of FnExactNextRegions, part 6 of 6; no condition: the statement as it is given. Merged by pack.py out of this session's texts. -/
import Derived.StillTailTactics
import Derived.Test.YteeghncofacmhaaRows
import Derived.WalkKit
import Derived.ProofKit
import Derived.OpenShut
import Derived.ChangeOld
import Derived.Below
import Derived.SizedLaws
import Derived.Test.YteeghncofacmhaaMd0
import Derived.Test.YteeghncofacmhaaMd4
import Derived.Test.YteeghncofacmhaaMd3
import Derived.Test.YteeghncofacmhaaMd2
section
namespace Go.Proofs.Yteeghncofacmhaa.Q
open Go.RowKit Go.Proofs.YteeghncofacmhaaW.PrintWords Go.Proofs.YteeghncofacmhaaW.PrintLast Go.Proofs.YteeghncofacmhaaW.PrintMore
attribute [local go_sem] max2_int min2_int max_two min_two max_three min_three max_four min_four   -- for this text's walks alone
set_option linter.unusedVariables false
set_option linter.unusedSimpArgs false
/-! ### laws_heldIntS: function 18 -/
def laws_heldIntS.l0 : Nat → List Int → Int → Int → Option (Int)
  | 0, _, _, _ => none
  | k + 1, x0, x1, x5 => if x5 < (x0.length : Int) then (if 0 ≤ x5 then (if (rd x0 x5) = x1 then (laws_heldIntS.l0 k x0 (wrap64 (x1 + 1)) (wrap64 (x5 + 1))) else (some (-1))) else (none)) else (some x1)
def laws_heldIntS.f (k : Nat) (l0 : List Int) (a1 : Int) : Option (Int) := laws_heldIntS.l0 k l0 a1 0
set_option maxHeartbeats 8000000 in
set_option maxRecDepth 100000 in
theorem laws_heldIntS.calls (k : Nat) (A0 : Option Addr) (c0 : Nat) (l0 : List Int) (a1 : Int) (r : Int) (w : World) (hr0 : Kd.C (Kd.int .i64) w A0 l0.length l0) (hc0 : l0.length ≤ c0) (h : laws_heldIntS.f k l0 a1 = some r) :
    Calls Try.prog 18 #[.slice A0 l0.length c0, .int .i64 a1] w fun e w' => e = .returned (.int .i64 r) ∧ Drawn0 w w' := by
  have HR0 := Aside0.mk hr0
  have HC0 := Aside0.mk hc0
  clear hr0 hc0
  have H : (laws_heldIntS.l0 k l0 a1 0) = some r := h
  clear h
  have H' := Aside0.mk H
  clear H
  go_enter Try.func18, Try.ntmps18
  go_wp2
  go_loopg [1, 5] k (fun kq v1 v5 w' => ∃ (x1_1 : Int) (x5_1 : Int), v1 = .int .i64 x1_1 ∧ v5 = .int .i64 x5_1 ∧ Aside0 (laws_heldIntS.l0 kq l0 x1_1 x5_1 = some r) ∧ Aside0 (kq ≤ k) ∧ Drawn0 w w')
  case atStart => exact ⟨(a1), (0), (by first | rfl | (simp; done) | (simp [*]; done)), (by first | rfl | (simp; done) | (simp [*]; done)), H', ⟨Nat.le_refl _⟩, by repeat (first | exact Drawn0.refl _ | apply Drawn0.step)⟩
  case round =>
    clear H'
    try clear c1
    try clear p2
    obtain ⟨x1_1, x5_1, rfl, rfl, HA, HK1, ⟨m1, rfl⟩⟩ := hrel
    cases gk with
    | zero => exact absurd HA.out (by simp [laws_heldIntS.l0])
    | succ k1 =>
      have H := HA.out
      clear HA
      simp only [laws_heldIntS.l0] at H
      by_cases c3 : x5_1 < (l0.length : Int)
      · rw [if_pos c3] at H
        have c3b0 : decide (x5_1 < (l0.length : Int)) = true := decide_eq_true c3
        clear c3
        by_cases c4 : 0 ≤ x5_1
        · rw [if_pos c4] at H
          have c4b0 : decide (0 ≤ x5_1) = true := decide_eq_true c4
          clear c4
          by_cases c5 : (rd l0 x5_1) = x1_1
          · rw [if_pos c5] at H
            have c5b0 : ((rd l0 x5_1) == x1_1) = true := beq_iff_eq.mpr c5
            have c5b1 : ((rd l0 x5_1) != x1_1) = false := bne_eq_false_iff_eq.mpr c5
            clear c5
            have H' := Aside0.mk H
            clear H
            have p101 : 0 ≤ (x5_1 : Int) := of_decide_eq_true (by first | (with_reducible assumption) | assumption)
            have q101 : x5_1 < (l0.length : Int) := of_decide_eq_true (by first | (with_reducible assumption) | assumption)
            obtain ⟨ad101, e101, hx101_0⟩ := Kd.at_int HR0.out x5_1 p101 q101
            cases e101
            replace p101 := eq_true p101
            replace q101 := eq_true q101
            go_wp2
            go_roundg k1
            case measure => have := HK1.out; omega
            case rel => exact ⟨(wrap64 (x1_1 + 1)), (wrap64 (x5_1 + 1)), (by first | rfl | (simp; done) | (simp [*]; done)), (by first | rfl | (simp; done) | (simp [*]; done)), H', ⟨by have := HK1.out; omega⟩, by repeat (first | exact Drawn0.refl _ | apply Drawn0.step)⟩
          · rw [if_neg c5] at H
            have c5b0 : ((rd l0 x5_1) == x1_1) = false := beq_eq_false_iff_ne.mpr c5
            have c5b1 : ((rd l0 x5_1) != x1_1) = true := bne_iff_ne.mpr c5
            obtain rfl := Option.some.inj H
            have p101 : 0 ≤ (x5_1 : Int) := of_decide_eq_true (by first | (with_reducible assumption) | assumption)
            have q101 : x5_1 < (l0.length : Int) := of_decide_eq_true (by first | (with_reducible assumption) | assumption)
            obtain ⟨ad101, e101, hx101_0⟩ := Kd.at_int HR0.out x5_1 p101 q101
            cases e101
            replace p101 := eq_true p101
            replace q101 := eq_true q101
            go_wp2
            go_ret
            exact ⟨by first | rfl | (simp; done) | (simp [*]; done), by repeat (first | exact Drawn0.refl _ | apply Drawn0.step)⟩
        · rw [if_neg c4] at H
          exact absurd H (by simp)
      · rw [if_neg c3] at H
        have c3b0 : decide (x5_1 < (l0.length : Int)) = false := decide_eq_false c3
        clear c3
        obtain rfl := Option.some.inj H
        go_wp2
        go_ret
        exact ⟨by first | rfl | (simp; done) | (simp [*]; done), by repeat (first | exact Drawn0.refl _ | apply Drawn0.step)⟩
end Go.Proofs.Yteeghncofacmhaa.Q
end
section
/- What the laws' own helpers compute: rows copied, compared, marked and held. -/
namespace Go.Proofs.Yteeghncofacmhaa.Q
open Go.RowKit Go.Proofs.YteeghncofacmhaaW.PrintWords Go.Proofs.YteeghncofacmhaaW.PrintLast Go.Proofs.YteeghncofacmhaaW.PrintMore
set_option linter.unusedVariables false
set_option linter.unusedSimpArgs false
def toCh (l : List S66) : List Ch := l.map fun c => ⟨c.f0, c.f1⟩
theorem toCh_length (l : List S66) : (toCh l).length = l.length := by simp [toCh]
theorem rdL_at {xs : List S66} {i : Nat} (h : i < xs.length) : rd_T66 xs (i : Int) = xs[i] := by
  simp [rd_T66, List.getD_eq_getElem?_getD, List.getElem?_eq_getElem h]
theorem szChordS_eq (l : List S66) (hl : l.length ≤ 9223372036854775807) : laws_szChordS.f l 1048576 = some (if 1048576 < l.length then -1 else 1048576 - (l.length : Int)) := by
  have hw : wrap64 (1048576 - (l.length : Int)) = 1048576 - (l.length : Int) := by unfold wrap64; omega
  unfold laws_szChordS.f
  rw [hw]
  by_cases h : 1048576 < l.length
  · rw [if_pos (by omega), if_pos h]
  · rw [if_neg (by omega), if_neg h]
theorem set_mid {α : Type} (a : List α) (b : List α) (x : α) (i : Nat) (hi : i < b.length) (ha : a.length = i) (hb : a.length ≤ i) : (a ++ b.drop i).set i x = (a ++ [x]) ++ b.drop (i + 1) := by
  rw [List.set_append_right _ _ (by omega), List.drop_eq_getElem_cons hi, ha, Nat.sub_self, List.set_cons_zero, List.append_assoc]
  rfl
theorem toChordS_ev (l : List S66) (hl : l.length ≤ 1048576) : Ev (fun k => laws_toChordS.f k l) (toCh l) := by
  have key : ∀ (d i : Nat), i + d = l.length → Ev (fun k => laws_toChordS.l0 k l ((toCh l).take i ++ (List.replicate l.length z64).drop i) (i : Int)) (toCh l) := by
    intro d
    induction d with
    | zero =>
      intro i hd
      refine Ev.some_ fun k => ?_
      simp only [laws_toChordS.l0]
      rw [if_neg (by omega)]
      obtain rfl : i = l.length := by omega
      rw [List.drop_eq_nil_of_le (by simp), List.take_of_length_le (by rw [toCh_length]; exact Nat.le_refl _), List.append_nil]
    | succ d ih =>
      intro i hd
      have hi : i < l.length := by omega
      have hti : ((toCh l).take i).length = i := by rw [List.length_take, toCh_length]; omega
      refine Ev.step (fun k => ?_) (ih (i + 1) (by omega))
      simp only [laws_toChordS.l0, laws_toChord.f, Option.bind_some]
      rw [if_pos (by omega), if_pos (by omega), if_pos (by rw [List.length_append, hti, List.length_drop, List.length_replicate]; omega), w64 hi (by omega), Int.toNat_natCast, rdL_at hi, set_mid _ _ _ i (by simpa using hi) hti (by omega), List.take_succ_eq_append_getElem (by rw [toCh_length]; exact hi)]
      simp [toCh]
  unfold laws_toChordS.f
  refine Ev.congr (f := fun k => laws_toChordS.l0 k l (List.replicate l.length z64) 0) (fun k => ?_) ?_
  · rw [if_pos (by omega), Int.toNat_natCast, if_pos (by omega)]
  · have := key l.length 0 (by omega)
    simpa using this
theorem eqIntS_refl (a : List Int) (hl : a.length ≤ 4611686018427387904) : Ev (fun k => laws_eqIntS.f k a a) true := by
  have key : ∀ (d i : Nat), i + d = a.length → Ev (fun k => laws_eqIntS.l0 k a a (i : Int)) true := by
    intro d
    induction d with
    | zero =>
      intro i hd
      refine Ev.some_ fun k => ?_
      simp only [laws_eqIntS.l0]
      rw [if_neg (by omega)]
    | succ d ih =>
      intro i hd
      refine Ev.step (fun k => ?_) (ih (i + 1) (by omega))
      simp only [laws_eqIntS.l0]
      rw [if_pos (by omega), if_pos (by omega), if_pos (by omega), if_pos trivial, w64 (n := a.length) (by omega) hl]
  unfold laws_eqIntS.f
  refine Ev.congr (f := fun k => laws_eqIntS.l0 k a a 0) (fun k => by rw [if_pos rfl]) (key a.length 0 (by omega))
theorem eqChordS_refl (a : List Ch) (hl : a.length ≤ 4611686018427387904) : Ev (fun k => laws_eqChordS.f k a a) true := by
  have key : ∀ (d i : Nat), i + d = a.length → Ev (fun k => laws_eqChordS.l0 k a a (i : Int)) true := by
    intro d
    induction d with
    | zero =>
      intro i hd
      refine Ev.some_ fun k => ?_
      simp only [laws_eqChordS.l0]
      rw [if_neg (by omega)]
    | succ d ih =>
      intro i hd
      refine Ev.step (fun k => ?_) (ih (i + 1) (by omega))
      simp only [laws_eqChordS.l0, laws_eqChord.f]
      rw [if_pos (by omega), if_pos (by omega), if_pos (by omega), if_pos trivial, if_pos trivial, Option.bind_some, if_pos rfl, w64 (n := a.length) (by omega) hl]
  unfold laws_eqChordS.f
  refine Ev.congr (f := fun k => laws_eqChordS.l0 k a a 0) (fun k => by rw [if_pos rfl]) (key a.length 0 (by omega))
theorem markChordS_ev (l : List Ch) (hl : l.length ≤ 1048576) : ∃ m l', 0 ≤ m ∧ Ev (fun k => laws_markChordS.f k l 1) (m, l') := by
  have key : ∀ (d i : Nat) (x : List Ch) (m : Int), i + d = x.length → x.length ≤ 1048576 → 0 ≤ m → m ≤ 1 + 2 * (i : Int) → ∃ m' l', 0 ≤ m' ∧ Ev (fun k => laws_markChordS.l0 k x m (i : Int)) (m', l') := by
    intro d
    induction d with
    | zero =>
      intro i x m hd _ hm _
      refine ⟨m, x, hm, Ev.some_ fun k => ?_⟩
      simp only [laws_markChordS.l0]
      rw [if_neg (by omega)]
    | succ d ih =>
      intro i x m hd hx hm hm2
      obtain ⟨m', l', h0, h1⟩ := ih (i + 1) ((x.set i (⟨m, (rd_T64 x i).f1⟩ : Ch)).set i (⟨(rd_T64 (x.set i (⟨m, (rd_T64 x i).f1⟩ : Ch)) i).f0, m + 1⟩ : Ch)) (m + 2) (by simp; omega) (by simp; omega) (by omega) (by omega)
      refine ⟨m', l', h0, Ev.step (fun k => ?_) h1⟩
      simp only [laws_markChordS.l0, Option.bind_some]
      rw [if_pos (by omega), if_pos (by omega), Int.toNat_natCast, w64s (x := m + 1) (by omega) (by omega), w64s (x := m + 1 + 1) (by omega) (by omega), w64 (n := x.length) (by omega) (by omega), show m + 1 + 1 = m + 2 by omega]
  exact key l.length 0 l 1 (by omega) hl (by omega) (by omega)
theorem markIntS_ev (l : List Int) (a : Int) (hl : l.length ≤ 1000000000000) (ha : 0 ≤ a ∧ a ≤ 1000000000000) : Ev (fun k => laws_markIntS.f k l a) (a + (l.length : Int), ints a l.length) := by
  have key : ∀ (d i : Nat), i + d = l.length → Ev (fun k => laws_markIntS.l0 k (ints a i ++ l.drop i) (a + (i : Int)) (i : Int)) (a + (l.length : Int), ints a l.length) := by
    intro d
    induction d with
    | zero =>
      intro i hd
      refine Ev.some_ fun k => ?_
      simp only [laws_markIntS.l0]
      obtain rfl : i = l.length := by omega
      have hil : (ints a l.length).length = l.length := by simp [ints]
      rw [List.drop_eq_nil_of_le (Nat.le_refl _), List.append_nil, if_neg (by omega)]
    | succ d ih =>
      intro i hd
      have hil : (ints a i).length = i := by simp [ints]
      refine Ev.step (fun k => ?_) (ih (i + 1) (by omega))
      simp only [laws_markIntS.l0]
      rw [if_pos (by rw [List.length_append, hil, List.length_drop]; omega), if_pos (by omega), Int.toNat_natCast, w64s (x := a + (i : Int) + 1) (by omega) (by omega), w64 (n := l.length) (by omega) (by omega), set_mid _ _ _ i (by omega) hil (by omega), show a + ((i + 1 : Nat) : Int) = a + (i : Int) + 1 by omega, ints_append]
      simp [ints]
  unfold laws_markIntS.f
  have := key l.length 0 (by omega)
  simpa [ints] using this
theorem heldIntS_ev (n : Nat) (a : Int) (hl : n ≤ 1000000000000) (ha : 0 ≤ a ∧ a ≤ 1000000000000) : Ev (fun k => laws_heldIntS.f k (ints a n) a) (a + (n : Int)) := by
  have hil : (ints a n).length = n := by simp [ints]
  have key : ∀ (d i : Nat), i + d = n → Ev (fun k => laws_heldIntS.l0 k (ints a n) (a + (i : Int)) (i : Int)) (a + (n : Int)) := by
    intro d
    induction d with
    | zero =>
      intro i hd
      refine Ev.some_ fun k => ?_
      simp only [laws_heldIntS.l0]
      rw [hil, if_neg (by omega), show i = n by omega]
    | succ d ih =>
      intro i hd
      have hi : i < (ints a n).length := by omega
      refine Ev.step (fun k => ?_) (ih (i + 1) (by omega))
      have hv : (ints a n)[i] = a + (i : Int) := by simp [ints]
      simp only [laws_heldIntS.l0]
      rw [if_pos (by omega), if_pos (by omega), rd_at hi, hv, if_pos rfl, w64s (x := a + (i : Int) + 1) (by omega) (by omega), w64 (n := n) (by omega) (by omega), show a + ((i + 1 : Nat) : Int) = a + (i : Int) + 1 by omega]
  unfold laws_heldIntS.f
  have := key n 0 (by omega)
  simpa using this
end Go.Proofs.Yteeghncofacmhaa.Q
end
section
namespace Go.Proofs.Yteeghncofacmhaa.Q
open Go.RowKit Go.Proofs.YteeghncofacmhaaW.PrintWords Go.Proofs.YteeghncofacmhaaW.PrintLast Go.Proofs.YteeghncofacmhaaW.PrintMore
attribute [local go_sem] max2_int min2_int max_two min_two max_three min_three max_four min_four   -- for this text's walks alone
set_option linter.unusedVariables false
set_option linter.unusedSimpArgs false
/-! ### laws_eqIntSS: function 23 -/
def laws_eqIntSS.l0 : Nat → List (List Int) → List (List Int) → Int → Option (Bool)
  | 0, _, _, _ => none
  | k + 1, x0, x1, x5 => if x5 < (x0.length : Int) then (if 0 ≤ x5 then (if x5 < (x1.length : Int) then ((laws_eqIntS.f k (rd_L4 x0 x5) (rd_L4 x1 x5)).bind fun t103 => (if t103 = true then (laws_eqIntSS.l0 k x0 x1 (wrap64 (x5 + 1))) else (some false))) else (none)) else (none)) else (some true)
def laws_eqIntSS.f (k : Nat) (l0 : List (List Int)) (l1 : List (List Int)) : Option (Bool) := if (l0.length : Int) = (l1.length : Int) then (laws_eqIntSS.l0 k l0 l1 0) else (some false)
set_option maxHeartbeats 8000000 in
set_option maxRecDepth 100000 in
theorem laws_eqIntSS.calls (k : Nat) (A0 : Option Addr) (c0 : Nat) (l0 : List (List Int)) (A1 : Option Addr) (c1 : Nat) (l1 : List (List Int)) (r : Bool) (w : World) (hr0 : Kd.C (Kd.slice 3 (Kd.int .i64)) w A0 l0.length l0) (hc0 : l0.length ≤ c0) (hr1 : Kd.C (Kd.slice 3 (Kd.int .i64)) w A1 l1.length l1) (hc1 : l1.length ≤ c1) (h : laws_eqIntSS.f k l0 l1 = some r) :
    Calls Try.prog 23 #[.slice A0 l0.length c0, .slice A1 l1.length c1] w fun e w' => e = .returned (.bool r) ∧ Drawn0 w w' := by
  have HR0 := Aside0.mk hr0
  have HC0 := Aside0.mk hc0
  clear hr0 hc0
  have HR1 := Aside0.mk hr1
  have HC1 := Aside0.mk hc1
  clear hr1 hc1
  have H : (if (l0.length : Int) = (l1.length : Int) then (laws_eqIntSS.l0 k l0 l1 0) else (some false)) = some r := h
  clear h
  by_cases c3 : (l0.length : Int) = (l1.length : Int)
  · rw [if_pos c3] at H
    have c3b0 : ((l0.length : Int) == (l1.length : Int)) = true := beq_iff_eq.mpr c3
    have c3b1 : ((l0.length : Int) != (l1.length : Int)) = false := bne_eq_false_iff_eq.mpr c3
    have c3b2 : (l0.length == l1.length) = true := by first | simpa using c3 | (simp at c3 ⊢; omega)
    clear c3
    have H' := Aside0.mk H
    clear H
    go_enter Try.func23, Try.ntmps23
    go_wp2
    repeat (go_quiet (fail); try go_wp2)
    go_loopg [5] k (fun kq v5 w' => ∃ (x5_1 : Int), v5 = .int .i64 x5_1 ∧ Aside0 (laws_eqIntSS.l0 kq l0 l1 x5_1 = some r) ∧ Aside0 (kq ≤ k) ∧ Drawn0 w w')
    case atStart => exact ⟨(0), (by first | rfl | (simp; done) | (simp [*]; done)), H', ⟨Nat.le_refl _⟩, by repeat (first | exact Drawn0.refl _ | apply Drawn0.step)⟩
    case round =>
      clear H'
      try clear c1
      try clear c2
      try clear p2
      try clear c3
      try clear c3b0
      try clear c3b1
      try clear c3b2
      obtain ⟨x5_1, rfl, HA, HK1, ⟨m1, rfl⟩⟩ := hrel
      cases gk with
      | zero => exact absurd HA.out (by simp [laws_eqIntSS.l0])
      | succ k1 =>
        have H := HA.out
        clear HA
        simp only [laws_eqIntSS.l0] at H
        by_cases c4 : x5_1 < (l0.length : Int)
        · rw [if_pos c4] at H
          have c4b0 : decide (x5_1 < (l0.length : Int)) = true := decide_eq_true c4
          clear c4
          by_cases c5 : 0 ≤ x5_1
          · rw [if_pos c5] at H
            have c5b0 : decide (0 ≤ x5_1) = true := decide_eq_true c5
            clear c5
            by_cases c6 : x5_1 < (l1.length : Int)
            · rw [if_pos c6] at H
              have c6b0 : decide (x5_1 < (l1.length : Int)) = true := decide_eq_true c6
              clear c6
              replace H := Option.bind_eq_some_iff.mp H
              obtain ⟨t103, A70, H⟩ := H
              replace H : (if t103 = true then (laws_eqIntSS.l0 k1 l0 l1 (wrap64 (x5_1 + 1))) else (some false)) = some r := H
              have A7 := Aside0.mk A70
              clear A70
              by_cases c8 : t103 = true
              · subst c8
                have H1 : (laws_eqIntSS.l0 k1 l0 l1 (wrap64 (x5_1 + 1))) = some r := by rw [if_pos rfl] at H; exact H
                clear H
                have H := H1
                clear H1
                have H' := Aside0.mk H
                clear H
                have p101 : 0 ≤ (x5_1 : Int) := of_decide_eq_true (by first | (with_reducible assumption) | assumption)
                have q101 : x5_1 < (l0.length : Int) := of_decide_eq_true (by first | (with_reducible assumption) | assumption)
                obtain ⟨ad101, A101_0, c101_0, e101, hx101_0, hl101_0, hi101_0⟩ := at_L4 HR0.out x5_1 p101 q101
                cases e101
                have HR101_0 := Aside0.mk hi101_0
                have HC101_0 := Aside0.mk hl101_0
                clear hi101_0 hl101_0
                replace p101 := eq_true p101
                replace q101 := eq_true q101
                have p102 : 0 ≤ (x5_1 : Int) := of_decide_eq_true (by first | (with_reducible assumption) | assumption)
                have q102 : x5_1 < (l1.length : Int) := of_decide_eq_true (by first | (with_reducible assumption) | assumption)
                obtain ⟨ad102, A102_0, c102_0, e102, hx102_0, hl102_0, hi102_0⟩ := at_L4 HR1.out x5_1 p102 q102
                cases e102
                have HR102_0 := Aside0.mk hi102_0
                have HC102_0 := Aside0.mk hl102_0
                clear hi102_0 hl102_0
                replace p102 := eq_true p102
                replace q102 := eq_true q102
                go_wp2_with (first | (go_at_call 14; (with_reducible refine (laws_eqIntS.calls k1 _ _ (rd_L4 l0 x5_1) _ _ (rd_L4 l1 x5_1) true _ ?side1 ?side2 ?side3 ?side4 A7.out).mono ?_); (case side1 => repeat (first | exact HR101_0.out | (with_reducible refine Kd.C_alloc ?_ _) | (with_reducible refine Kd.C_drewN ?_ _) | (with_reducible refine Kd.C_drew ?_))); (case side2 => exact HC101_0.out); (case side3 => repeat (first | exact HR102_0.out | (with_reducible refine Kd.C_alloc ?_ _) | (with_reducible refine Kd.C_drewN ?_ _) | (with_reducible refine Kd.C_drew ?_))); (case side4 => exact HC102_0.out); rintro e w' ⟨rfl, ⟨nd, rfl⟩⟩; (try first | exact ⟨rfl, _, World.drewN_drewN _ _ _⟩ | exact ⟨rfl, _, Eq.trans (World.drewN_drewN _ _ _) (congrArg (World.drewN _) (Nat.add_assoc _ _ _))⟩)))
                repeat (go_quiet (first | (go_at_call 14; (with_reducible refine (laws_eqIntS.calls k1 _ _ (rd_L4 l0 x5_1) _ _ (rd_L4 l1 x5_1) true _ ?side1 ?side2 ?side3 ?side4 A7.out).mono ?_); (case side1 => repeat (first | exact HR101_0.out | (with_reducible refine Kd.C_alloc ?_ _) | (with_reducible refine Kd.C_drewN ?_ _) | (with_reducible refine Kd.C_drew ?_))); (case side2 => exact HC101_0.out); (case side3 => repeat (first | exact HR102_0.out | (with_reducible refine Kd.C_alloc ?_ _) | (with_reducible refine Kd.C_drewN ?_ _) | (with_reducible refine Kd.C_drew ?_))); (case side4 => exact HC102_0.out); rintro e w' ⟨rfl, ⟨nd, rfl⟩⟩; (try first | exact ⟨rfl, _, World.drewN_drewN _ _ _⟩ | exact ⟨rfl, _, Eq.trans (World.drewN_drewN _ _ _) (congrArg (World.drewN _) (Nat.add_assoc _ _ _))⟩))); try go_wp2_with (first | (go_at_call 14; (with_reducible refine (laws_eqIntS.calls k1 _ _ (rd_L4 l0 x5_1) _ _ (rd_L4 l1 x5_1) true _ ?side1 ?side2 ?side3 ?side4 A7.out).mono ?_); (case side1 => repeat (first | exact HR101_0.out | (with_reducible refine Kd.C_alloc ?_ _) | (with_reducible refine Kd.C_drewN ?_ _) | (with_reducible refine Kd.C_drew ?_))); (case side2 => exact HC101_0.out); (case side3 => repeat (first | exact HR102_0.out | (with_reducible refine Kd.C_alloc ?_ _) | (with_reducible refine Kd.C_drewN ?_ _) | (with_reducible refine Kd.C_drew ?_))); (case side4 => exact HC102_0.out); rintro e w' ⟨rfl, ⟨nd, rfl⟩⟩; (try first | exact ⟨rfl, _, World.drewN_drewN _ _ _⟩ | exact ⟨rfl, _, Eq.trans (World.drewN_drewN _ _ _) (congrArg (World.drewN _) (Nat.add_assoc _ _ _))⟩))))
                go_roundg k1
                case measure => have := HK1.out; omega
                case rel => exact ⟨(wrap64 (x5_1 + 1)), (by first | rfl | (simp; done) | (simp [*]; done)), H', ⟨by have := HK1.out; omega⟩, by repeat (first | exact Drawn0.refl _ | apply Drawn0.step)⟩
              · replace c8 := Bool.eq_false_iff.mpr c8
                subst c8
                have H1 : (some false) = some r := by rw [if_neg (show ¬ (false = true) by decide)] at H; exact H
                clear H
                have H := H1
                clear H1
                obtain rfl := Option.some.inj H
                have p101 : 0 ≤ (x5_1 : Int) := of_decide_eq_true (by first | (with_reducible assumption) | assumption)
                have q101 : x5_1 < (l0.length : Int) := of_decide_eq_true (by first | (with_reducible assumption) | assumption)
                obtain ⟨ad101, A101_0, c101_0, e101, hx101_0, hl101_0, hi101_0⟩ := at_L4 HR0.out x5_1 p101 q101
                cases e101
                have HR101_0 := Aside0.mk hi101_0
                have HC101_0 := Aside0.mk hl101_0
                clear hi101_0 hl101_0
                replace p101 := eq_true p101
                replace q101 := eq_true q101
                have p102 : 0 ≤ (x5_1 : Int) := of_decide_eq_true (by first | (with_reducible assumption) | assumption)
                have q102 : x5_1 < (l1.length : Int) := of_decide_eq_true (by first | (with_reducible assumption) | assumption)
                obtain ⟨ad102, A102_0, c102_0, e102, hx102_0, hl102_0, hi102_0⟩ := at_L4 HR1.out x5_1 p102 q102
                cases e102
                have HR102_0 := Aside0.mk hi102_0
                have HC102_0 := Aside0.mk hl102_0
                clear hi102_0 hl102_0
                replace p102 := eq_true p102
                replace q102 := eq_true q102
                go_wp2_with (first | (go_at_call 14; (with_reducible refine (laws_eqIntS.calls k1 _ _ (rd_L4 l0 x5_1) _ _ (rd_L4 l1 x5_1) false _ ?side1 ?side2 ?side3 ?side4 A7.out).mono ?_); (case side1 => repeat (first | exact HR101_0.out | (with_reducible refine Kd.C_alloc ?_ _) | (with_reducible refine Kd.C_drewN ?_ _) | (with_reducible refine Kd.C_drew ?_))); (case side2 => exact HC101_0.out); (case side3 => repeat (first | exact HR102_0.out | (with_reducible refine Kd.C_alloc ?_ _) | (with_reducible refine Kd.C_drewN ?_ _) | (with_reducible refine Kd.C_drew ?_))); (case side4 => exact HC102_0.out); rintro e w' ⟨rfl, ⟨nd, rfl⟩⟩; (try first | exact ⟨rfl, _, World.drewN_drewN _ _ _⟩ | exact ⟨rfl, _, Eq.trans (World.drewN_drewN _ _ _) (congrArg (World.drewN _) (Nat.add_assoc _ _ _))⟩)))
                repeat (go_quiet (first | (go_at_call 14; (with_reducible refine (laws_eqIntS.calls k1 _ _ (rd_L4 l0 x5_1) _ _ (rd_L4 l1 x5_1) false _ ?side1 ?side2 ?side3 ?side4 A7.out).mono ?_); (case side1 => repeat (first | exact HR101_0.out | (with_reducible refine Kd.C_alloc ?_ _) | (with_reducible refine Kd.C_drewN ?_ _) | (with_reducible refine Kd.C_drew ?_))); (case side2 => exact HC101_0.out); (case side3 => repeat (first | exact HR102_0.out | (with_reducible refine Kd.C_alloc ?_ _) | (with_reducible refine Kd.C_drewN ?_ _) | (with_reducible refine Kd.C_drew ?_))); (case side4 => exact HC102_0.out); rintro e w' ⟨rfl, ⟨nd, rfl⟩⟩; (try first | exact ⟨rfl, _, World.drewN_drewN _ _ _⟩ | exact ⟨rfl, _, Eq.trans (World.drewN_drewN _ _ _) (congrArg (World.drewN _) (Nat.add_assoc _ _ _))⟩))); try go_wp2_with (first | (go_at_call 14; (with_reducible refine (laws_eqIntS.calls k1 _ _ (rd_L4 l0 x5_1) _ _ (rd_L4 l1 x5_1) false _ ?side1 ?side2 ?side3 ?side4 A7.out).mono ?_); (case side1 => repeat (first | exact HR101_0.out | (with_reducible refine Kd.C_alloc ?_ _) | (with_reducible refine Kd.C_drewN ?_ _) | (with_reducible refine Kd.C_drew ?_))); (case side2 => exact HC101_0.out); (case side3 => repeat (first | exact HR102_0.out | (with_reducible refine Kd.C_alloc ?_ _) | (with_reducible refine Kd.C_drewN ?_ _) | (with_reducible refine Kd.C_drew ?_))); (case side4 => exact HC102_0.out); rintro e w' ⟨rfl, ⟨nd, rfl⟩⟩; (try first | exact ⟨rfl, _, World.drewN_drewN _ _ _⟩ | exact ⟨rfl, _, Eq.trans (World.drewN_drewN _ _ _) (congrArg (World.drewN _) (Nat.add_assoc _ _ _))⟩))))
                go_ret
                exact ⟨by first | rfl | (simp; done) | (simp [*]; done), by repeat (first | exact Drawn0.refl _ | apply Drawn0.step)⟩
            · rw [if_neg c6] at H
              exact absurd H (by simp)
          · rw [if_neg c5] at H
            exact absurd H (by simp)
        · rw [if_neg c4] at H
          have c4b0 : decide (x5_1 < (l0.length : Int)) = false := decide_eq_false c4
          clear c4
          obtain rfl := Option.some.inj H
          go_wp2
          repeat (go_quiet (fail); try go_wp2)
          go_ret
          exact ⟨by first | rfl | (simp; done) | (simp [*]; done), by repeat (first | exact Drawn0.refl _ | apply Drawn0.step)⟩
  · rw [if_neg c3] at H
    have c3b0 : ((l0.length : Int) == (l1.length : Int)) = false := beq_eq_false_iff_ne.mpr c3
    have c3b1 : ((l0.length : Int) != (l1.length : Int)) = true := bne_iff_ne.mpr c3
    have c3b2 : (l0.length == l1.length) = false := by first | simpa using c3 | (simp at c3 ⊢; omega)
    obtain rfl := Option.some.inj H
    go_enter Try.func23, Try.ntmps23
    go_wp2
    repeat (go_quiet (fail); try go_wp2)
    go_ret
    exact ⟨by first | rfl | (simp; done) | (simp [*]; done), by repeat (first | exact Drawn0.refl _ | apply Drawn0.step)⟩
end Go.Proofs.Yteeghncofacmhaa.Q
end
section
namespace Go.Proofs.Yteeghncofacmhaa.Q
open Go.RowKit Go.Proofs.YteeghncofacmhaaW.PrintWords Go.Proofs.YteeghncofacmhaaW.PrintLast Go.Proofs.YteeghncofacmhaaW.PrintMore
attribute [local go_sem] max2_int min2_int max_two min_two max_three min_three max_four min_four   -- for this text's walks alone
set_option linter.unusedVariables false
set_option linter.unusedSimpArgs false
/-! ### laws_heldIntSS: function 25 -/
def laws_heldIntSS.l0 : Nat → List (List Int) → Int → Int → Option (Int)
  | 0, _, _, _ => none
  | k + 1, x0, x1, x5 => if x5 < (x0.length : Int) then (if 0 ≤ x5 then ((laws_heldIntS.f k (rd_L4 x0 x5) x1).bind fun t102 => (if t102 < 0 then (some (-1)) else (laws_heldIntSS.l0 k x0 t102 (wrap64 (x5 + 1))))) else (none)) else (some x1)
def laws_heldIntSS.f (k : Nat) (l0 : List (List Int)) (a1 : Int) : Option (Int) := laws_heldIntSS.l0 k l0 a1 0
set_option maxHeartbeats 8000000 in
set_option maxRecDepth 100000 in
theorem laws_heldIntSS.calls (k : Nat) (A0 : Option Addr) (c0 : Nat) (l0 : List (List Int)) (a1 : Int) (r : Int) (w : World) (hr0 : Kd.C (Kd.slice 3 (Kd.int .i64)) w A0 l0.length l0) (hc0 : l0.length ≤ c0) (h : laws_heldIntSS.f k l0 a1 = some r) :
    Calls Try.prog 25 #[.slice A0 l0.length c0, .int .i64 a1] w fun e w' => e = .returned (.int .i64 r) ∧ Drawn0 w w' := by
  have HR0 := Aside0.mk hr0
  have HC0 := Aside0.mk hc0
  clear hr0 hc0
  have H : (laws_heldIntSS.l0 k l0 a1 0) = some r := h
  clear h
  have H' := Aside0.mk H
  clear H
  go_enter Try.func25, Try.ntmps25
  go_wp2
  go_loopg [1, 5] k (fun kq v1 v5 w' => ∃ (x1_1 : Int) (x5_1 : Int), v1 = .int .i64 x1_1 ∧ v5 = .int .i64 x5_1 ∧ Aside0 (laws_heldIntSS.l0 kq l0 x1_1 x5_1 = some r) ∧ Aside0 (kq ≤ k) ∧ Drawn0 w w')
  case atStart => exact ⟨(a1), (0), (by first | rfl | (simp; done) | (simp [*]; done)), (by first | rfl | (simp; done) | (simp [*]; done)), H', ⟨Nat.le_refl _⟩, by repeat (first | exact Drawn0.refl _ | apply Drawn0.step)⟩
  case round =>
    clear H'
    try clear c2
    try clear p2
    obtain ⟨x1_1, x5_1, rfl, rfl, HA, HK1, ⟨m1, rfl⟩⟩ := hrel
    cases gk with
    | zero => exact absurd HA.out (by simp [laws_heldIntSS.l0])
    | succ k1 =>
      have H := HA.out
      clear HA
      simp only [laws_heldIntSS.l0] at H
      by_cases c3 : x5_1 < (l0.length : Int)
      · rw [if_pos c3] at H
        have c3b0 : decide (x5_1 < (l0.length : Int)) = true := decide_eq_true c3
        clear c3
        by_cases c4 : 0 ≤ x5_1
        · rw [if_pos c4] at H
          have c4b0 : decide (0 ≤ x5_1) = true := decide_eq_true c4
          clear c4
          replace H := Option.bind_eq_some_iff.mp H
          obtain ⟨t102, A50, H⟩ := H
          replace H : (if t102 < 0 then (some (-1)) else (laws_heldIntSS.l0 k1 l0 t102 (wrap64 (x5_1 + 1)))) = some r := H
          have A5 := Aside0.mk A50
          clear A50
          by_cases c6 : t102 < 0
          · rw [if_pos c6] at H
            have c6b0 : decide (t102 < 0) = true := decide_eq_true c6
            clear c6
            obtain rfl := Option.some.inj H
            have p101 : 0 ≤ (x5_1 : Int) := of_decide_eq_true (by first | (with_reducible assumption) | assumption)
            have q101 : x5_1 < (l0.length : Int) := of_decide_eq_true (by first | (with_reducible assumption) | assumption)
            obtain ⟨ad101, A101_0, c101_0, e101, hx101_0, hl101_0, hi101_0⟩ := at_L4 HR0.out x5_1 p101 q101
            cases e101
            have HR101_0 := Aside0.mk hi101_0
            have HC101_0 := Aside0.mk hl101_0
            clear hi101_0 hl101_0
            replace p101 := eq_true p101
            replace q101 := eq_true q101
            go_wp2_with (first | ((with_reducible refine gate_callee (f := 18) rfl ?_); refine goesL_ (some 17) rfl rfl Try.func18 (by kernel_rfl) rfl #[.slice A101_0 (rd_L4 l0 x5_1).length c101_0, .int .i64 x1_1] rfl (by (try simp only [List.map_toArray, List.map_cons, List.map_nil]); first | done | rfl | (simp only [List.length_drop, List.length_take]; rfl)) ?_; (with_reducible refine (laws_heldIntS.calls k1 _ _ (rd_L4 l0 x5_1) x1_1 t102 _ ?side1 ?side2 A5.out).mono ?_); (case side1 => repeat (first | exact HR101_0.out | (with_reducible refine Kd.C_alloc ?_ _) | (with_reducible refine Kd.C_drewN ?_ _) | (with_reducible refine Kd.C_drew ?_))); (case side2 => exact HC101_0.out); rintro e w' ⟨rfl, ⟨nd, rfl⟩⟩; refine ⟨_, rfl, ?_⟩))
            go_ret
            exact ⟨by first | rfl | (simp; done) | (simp [*]; done), by repeat (first | exact Drawn0.refl _ | apply Drawn0.step)⟩
          · rw [if_neg c6] at H
            have c6b0 : decide (t102 < 0) = false := decide_eq_false c6
            clear c6
            have H' := Aside0.mk H
            clear H
            have p101 : 0 ≤ (x5_1 : Int) := of_decide_eq_true (by first | (with_reducible assumption) | assumption)
            have q101 : x5_1 < (l0.length : Int) := of_decide_eq_true (by first | (with_reducible assumption) | assumption)
            obtain ⟨ad101, A101_0, c101_0, e101, hx101_0, hl101_0, hi101_0⟩ := at_L4 HR0.out x5_1 p101 q101
            cases e101
            have HR101_0 := Aside0.mk hi101_0
            have HC101_0 := Aside0.mk hl101_0
            clear hi101_0 hl101_0
            replace p101 := eq_true p101
            replace q101 := eq_true q101
            go_wp2_with (first | ((with_reducible refine gate_callee (f := 18) rfl ?_); refine goesL_ (some 17) rfl rfl Try.func18 (by kernel_rfl) rfl #[.slice A101_0 (rd_L4 l0 x5_1).length c101_0, .int .i64 x1_1] rfl (by (try simp only [List.map_toArray, List.map_cons, List.map_nil]); first | done | rfl | (simp only [List.length_drop, List.length_take]; rfl)) ?_; (with_reducible refine (laws_heldIntS.calls k1 _ _ (rd_L4 l0 x5_1) x1_1 t102 _ ?side1 ?side2 A5.out).mono ?_); (case side1 => repeat (first | exact HR101_0.out | (with_reducible refine Kd.C_alloc ?_ _) | (with_reducible refine Kd.C_drewN ?_ _) | (with_reducible refine Kd.C_drew ?_))); (case side2 => exact HC101_0.out); rintro e w' ⟨rfl, ⟨nd, rfl⟩⟩; refine ⟨_, rfl, ?_⟩))
            go_roundg k1
            case measure => have := HK1.out; omega
            case rel => exact ⟨(t102), (wrap64 (x5_1 + 1)), (by first | rfl | (simp; done) | (simp [*]; done)), (by first | rfl | (simp; done) | (simp [*]; done)), H', ⟨by have := HK1.out; omega⟩, by repeat (first | exact Drawn0.refl _ | apply Drawn0.step)⟩
        · rw [if_neg c4] at H
          exact absurd H (by simp)
      · rw [if_neg c3] at H
        have c3b0 : decide (x5_1 < (l0.length : Int)) = false := decide_eq_false c3
        clear c3
        obtain rfl := Option.some.inj H
        go_wp2
        go_ret
        exact ⟨by first | rfl | (simp; done) | (simp [*]; done), by repeat (first | exact Drawn0.refl _ | apply Drawn0.step)⟩
end Go.Proofs.Yteeghncofacmhaa.Q
end
section
/- Rows of rows, marked and held: laws.markIntSS by hand. -/
namespace Go.Proofs.Yteeghncofacmhaa.Q
open Go.RowKit Go.Proofs.YteeghncofacmhaaW.PrintWords Go.Proofs.YteeghncofacmhaaW.PrintLast Go.Proofs.YteeghncofacmhaaW.PrintMore
attribute [local go_sem] max2_int min2_int max_two min_two max_three min_three max_four min_four
set_option linter.unusedVariables false
set_option linter.unusedSimpArgs false
theorem S_rows {W : World} {B : Nat} {v : Value} {rows : List (List Int)} (h : Kd.S (Kd.slice 3 (Kd.int .i64)) 24 W B (fun _ => True) v rows) :
    ∃ ps : List (Value × List Int), ps.map Prod.snd = rows ∧ RowsP W B ps ∧ RowsO W B v ps := by
  obtain ⟨f, _, inner, ho, hr⟩ := h
  rw [List.length_zipIdx] at ho
  have hil : inner.length = rows.length := by
    have := hr.1
    rw [List.length_zipIdx] at this
    exact this.trans (Nat.mul_one _)
  have hsnd : (inner.zip rows).map Prod.snd = rows := List.map_snd_zip (by omega)
  have hfst : (inner.zip rows).map Prod.fst = inner := List.map_fst_zip (by omega)
  have hone : ∀ j (hj : j < rows.length), ((inner.drop (j * 1)).take 1) = [inner[j]] := fun j hj => by
    rw [Nat.mul_one, List.drop_eq_getElem_cons (by omega)]; rfl
  have hM : ∀ j (hj : j < rows.length), (Kd.int .i64).R 3 W B (fun k => (True ∧ some k ≠ v.ownBlock) ∧ f k = j) inner[j] rows[j] := fun j hj => by
    have h2 := hr.2 j (rows[j], j) (by rw [List.getElem?_zipIdx, List.getElem?_eq_getElem hj]; simp)
    obtain ⟨u, hu, hR⟩ := h2
    have h3 : ((inner.drop (j * 1)).take 1) = [u] := hu
    rw [hone j hj] at h3
    rw [(List.cons.inj h3).1]
    exact hR
  have hzl : (inner.zip rows).length = rows.length := by rw [List.length_zip]; omega
  refine ⟨inner.zip rows, hsnd, ⟨fun p hp => ?_, ?_⟩, ?_⟩
  · obtain ⟨j, hj, rfl⟩ := List.mem_iff_getElem.1 hp
    rw [hzl] at hj
    rw [List.getElem_zip]
    exact Kd.R_mono (hM j hj) (fun _ _ => trivial)
  · refine List.pairwise_iff_getElem.2 fun i j hi hj hij k hk he => ?_
    rw [hzl] at hi hj
    rw [List.getElem_zip] at hk he
    have h1 := ((hM i hi).1 k hk).2
    have h2 := ((hM j hj).1 k he).2
    omega
  · have hm : (inner.zip rows).map (fun p => [p.1]) = inner.map (fun u => [u]) := by
      conv => rhs; rw [← hfst]
      rw [List.map_map]; rfl
    unfold RowsO
    rw [hm]
    refine ⟨fun _ _ => trivial, inner, ?_, ?_, ?_⟩
    · rw [List.length_map, hil]; exact ho
    · rw [List.length_map]; exact (Nat.mul_one _).symm
    · intro j p hj
      rw [List.getElem?_map] at hj
      rcases Nat.lt_or_ge j inner.length with hlt | hge
      · rw [List.getElem?_eq_getElem hlt] at hj
        simp only [Option.map_some, Option.some.injEq] at hj
        subst hj
        have hjr : j < rows.length := by omega
        refine ⟨hone j hjr, by show ((inner.drop (j * 1)).take 1).length = 1; rw [hone j hjr]; rfl, fun u hu => ?_⟩
        have hu2 : u ∈ ((inner.drop (j * 1)).take 1) := hu
        rw [hone j hjr, List.mem_singleton] at hu2
        rw [hu2]
        exact oneR (Kd.R_mono (hM j hjr) (fun _ _ => trivial))
      · rw [List.getElem?_eq_none hge] at hj; cases hj
/-- Rows numbered through. -/
def marks : Int → List (List Int) → List (List Int)
  | _, [] => []
  | a, r :: rs => ints a r.length :: marks (a + (r.length : Int)) rs
def cnt (rs : List (List Int)) : Nat := (rs.map List.length).sum
theorem cnt_cons (r : List Int) (rs : List (List Int)) : cnt (r :: rs) = r.length + cnt rs := by simp [cnt]
theorem marks_length : ∀ (rs : List (List Int)) (a : Int), (marks a rs).length = rs.length
  | [], _ => rfl
  | r :: rs, a => by simp [marks, marks_length rs]
theorem cnt_append (l m : List (List Int)) : cnt (l ++ m) = cnt l + cnt m := by simp [cnt]
theorem marks_append : ∀ (l m : List (List Int)) (a : Int), marks a (l ++ m) = marks a l ++ marks (a + (cnt l : Int)) m
  | [], m, a => by simp [marks, cnt]
  | r :: l, m, a => by
    rw [List.cons_append, marks, marks, marks_append l m, cnt_cons, List.cons_append]
    congr 3
    rw [Int.natCast_add, Int.add_assoc]
def trunc (W : World) (b : Nat) : World := { W with heap := W.heap.extract 0 b }
theorem trunc_size (W : World) (b : Nat) (h : b ≤ W.heap.size) : (trunc W b).heap.size = b := by simp [trunc]; omega
theorem trunc_below (W : World) (b : Nat) (h : b ≤ W.heap.size) : Below b (trunc W b) W :=
  ⟨rfl, rfl, rfl, by rw [trunc_size W b h]; exact h, fun k hk => by simp [trunc, Array.getElem?_extract]; omega⟩
theorem below_trans {B : Nat} {w w1 w2 : World} (h : Below B w w1) (k : Below B w1 w2) : Below B w w2 :=
  ⟨k.os.trans h.os, k.tape.trans h.tape, k.output.trans h.output, Nat.le_trans h.size k.size, fun i hi => (k.block i hi).trans (h.block i hi)⟩
theorem RowsP.kept {W W1 : World} {B : Nat} {S : Nat → Prop} {ps : List (Value × List Int)} (h : RowsP W B ps) (hk : Kept W W1 S) (hS : ∀ p ∈ ps, ∀ k, p.1.ownBlock = some k → ¬ S k) : RowsP W1 B ps :=
  ⟨fun p hp => Kd.R_mono (Kd.R_step (Kd.R_tight rfl (h.1 p hp)) (fun k ho hlt => hk.2 k hlt (hS p hp k ho.symm))) (fun _ _ => trivial), h.2⟩
theorem RowsO.typed {W : World} {B : Nat} {v : Value} {ps : List (Value × List Int)} (h : RowsO W B v ps) (k : Nat) (hk : v.ownBlock = some k) : ∃ cells, W.heap[k]? = some (.cells cells 24 (0, 0)) := Kd.R_typed h k hk
set_option maxHeartbeats 4000000 in
set_option maxRecDepth 100000 in
theorem laws_markIntSS.calls (W : World) (B : Nat) (v : Value) (rows : List (List Int)) (a : Int) (hB : B ≤ W.heap.size) (hS : Kd.S (Kd.slice 3 (Kd.int .i64)) 24 W B (fun _ => True) v rows) (ha : 0 ≤ a) (hc : a + (cnt rows : Int) ≤ 1000000000) (hn : rows.length ≤ 1000000000) :
    Calls Try.prog 24 #[v, .int .i64 a] W fun e w' => e = .returned (.int .i64 (a + (cnt rows : Int))) ∧ Kd.S (Kd.slice 3 (Kd.int .i64)) 24 w' B (fun _ => True) v (marks a rows) ∧ Below B W w' := by
  obtain ⟨ps, rfl, hP, hO⟩ := S_rows hS
  clear hS
  rw [List.length_map] at hn
  -- what a round does
  have hround : ∀ (W' : World) (done : List (Value × List Int)) (p : Value × List Int) (rest : List (Value × List Int)) (x : Int), 0 ≤ x → x + (p.2.length : Int) ≤ 1000000000 → B ≤ W'.heap.size → RowsP W' B (done ++ p :: rest) → RowsO W' B v (done ++ p :: rest) →
      Calls Try.prog 17 #[p.1, .int .i64 x] W' fun e w' => e = .returned (.int .i64 (x + (p.2.length : Int))) ∧ RowsP w' B (done ++ (p.1, ints x p.2.length) :: rest) ∧ RowsO w' B v (done ++ (p.1, ints x p.2.length) :: rest) ∧ Below B W' w' := by
    intro W' done p rest x hx hx2 hB' hP' hO'
    obtain ⟨k, hk⟩ := markIntS_ev p.2 x (by omega) ⟨hx, by omega⟩
    have hm : p ∈ done ++ p :: rest := by simp
    have hR := hP'.1 p hm
    have htr := trunc_size W' B hB'
    refine (laws_markIntS.calls k (fun k_ => some k_ = p.1.ownBlock) p.1 p.2 x _ _ (trunc W' B) W' (by rw [htr]; exact trunc_below W' B hB') (by rw [htr]; exact Kd.R_tight rfl hR) (hk k (Nat.le_refl _))).mono ?_
    rintro e w' ⟨rfl, hR', hb, hkept⟩
    rw [htr] at hR' hb
    have hb2 : Below B W' w' := ⟨hb.os, hb.tape, hb.output, hkept.1, fun k hk => hkept.2 k (by omega) (fun he => by have := Kd.R_base hR k he.symm; omega)⟩
    have hother : RowsP w' B (done ++ rest) := RowsP.kept (hP'.sub (by simp)) hkept fun q hq k hk he => by
      have hpw := List.pairwise_append.1 hP'.2
      rcases List.mem_append.1 hq with hq | hq
      · exact hpw.2.2 q hq p (by simp) k hk he.symm
      · exact (List.pairwise_cons.1 hpw.2.1).1 q hq k he.symm hk
    have hnew : RowsP w' B ((p.1, ints x p.2.length) :: (done ++ rest)) := hother.cons (Kd.R_mono hR' (fun _ _ => trivial)) fun q hq k hk he => by
      have hpw := List.pairwise_append.1 hP'.2
      rcases List.mem_append.1 hq with hq | hq
      · exact hpw.2.2 q hq p (by simp) k he hk
      · exact (List.pairwise_cons.1 hpw.2.1).1 q hq k hk he
    refine ⟨rfl, hnew.perm List.perm_middle.symm, ?_, hb2⟩
    have hO2 : (Kd.raw 1).R 24 w' B (fun _ => True) v ((done ++ p :: rest).map fun p => [p.1]) := Kd.R_mono (Kd.R_step (Kd.R_tight rfl hO') (fun k ho hlt => hkept.2 k hlt (fun he => by
      obtain ⟨c1, h1⟩ := hO'.typed k ho.symm
      obtain ⟨c2, h2⟩ := Kd.R_typed hR k he.symm
      rw [h1] at h2
      injection h2 with h2
      injection h2 with _ h2
      exact absurd h2 (by decide)))) (fun _ _ => trivial)
    unfold RowsO
    have : (done ++ (p.1, ints x p.2.length) :: rest).map (fun p => [p.1]) = (done ++ p :: rest).map (fun p => [p.1]) := by simp
    rw [this]
    exact hO2
  replace hround := Aside0.mk hround
  have HP := Aside0.mk hP
  have HO := Aside0.mk hO
  obtain ⟨A0, c0, e0, hl0⟩ : ∃ A c, v = .slice A ps.length c ∧ ps.length ≤ c := by
    obtain ⟨A, c, he, hl, _⟩ := hO.slice
    exact ⟨A, c, he, hl⟩
  subst e0
  have hcp : (cnt (ps.map Prod.snd) : Int) = ((ps.map fun p => p.2.length).sum : Nat) := by unfold cnt; rw [List.map_map]; rfl
  have HB0 := Aside0.mk hB
  have HC := Aside0.mk hc
  have HA := Aside0.mk ha
  clear hP hO hB hc ha hcp
  have hu := Try.underlying37
  go_enter Try.func24, Try.ntmps24
  go_wp2
  go_loopw [1, 5] (fun v1 v5 wr => ∃ (j : Nat) (qs : List (Value × List Int)) (x : Int), v5 = .int .i64 (j : Int) ∧ v1 = .int .i64 x ∧ Aside0 (j ≤ ps.length) ∧ Aside0 (x = a + (cnt ((ps.map Prod.snd).take j) : Int)) ∧ Aside0 (qs.map Prod.fst = ps.map Prod.fst) ∧ Aside0 (qs.map Prod.snd = marks a ((ps.map Prod.snd).take j) ++ (ps.map Prod.snd).drop j) ∧ Aside0 (RowsP wr B qs) ∧ Aside0 (RowsO wr B (.slice A0 ps.length c0) qs) ∧ Aside0 (Below B W wr)) (fun _ v5 _ => ps.length - (intOf v5).toNat)
  case atStart => exact ⟨0, ps, a, rfl, rfl, ⟨Nat.zero_le _⟩, ⟨by simp [cnt]⟩, ⟨rfl⟩, ⟨by simp [marks]⟩, HP, HO, ⟨Below.refl _ _⟩⟩
  case round =>
    clear HP HO
    obtain ⟨j, qs, x, rfl, rfl, hj, hx, hfst, hsnd, HP, HO, HB⟩ := hrel
    replace hj := hj.out
    have hql : qs.length = ps.length := by
      have := congrArg List.length hfst.out
      simpa using this
    by_cases hlt : j < ps.length
    · have hl : decide ((j : Int) < (ps.length : Int)) = true := decide_eq_true (by omega)
      have hC : (Kd.raw 1).C wr A0 ps.length (qs.map fun p => [p.1]) := by
        have h1 := (Kd.R_reads' HO.out).2.2
        rw [List.length_map, hql] at h1
        exact h1
      obtain ⟨ad, A1, c1, ea, hcell, hv1, hl1, hC1⟩ := RowsO.get HP.out hC j (by omega) hql.symm
      cases ea
      have hs2 : qs[j].2 = (ps.map Prod.snd)[j]'(by simpa using hlt) := by
        have h1 : (qs.map Prod.snd)[j]? = some qs[j].2 := by rw [List.getElem?_map, List.getElem?_eq_getElem (by omega)]; rfl
        rw [hsnd.out, List.getElem?_append_right (by rw [marks_length, List.length_take]; omega), marks_length, List.length_take, List.length_map, Nat.min_eq_left (by omega), Nat.sub_self, List.getElem?_drop, Nat.add_zero, List.getElem?_eq_getElem (by simpa using hlt)] at h1
        exact (Option.some.inj h1).symm
      have htk : (ps.map Prod.snd).take (j + 1) = (ps.map Prod.snd).take j ++ [qs[j].2] := by rw [List.take_succ_eq_append_getElem (by simpa using hlt), hs2]
      have hcnt : cnt ((ps.map Prod.snd).take (j + 1)) = cnt ((ps.map Prod.snd).take j) + qs[j].2.length := by rw [htk, cnt_append, cnt_cons]; simp [cnt]
      have hle : cnt ((ps.map Prod.snd).take (j + 1)) ≤ cnt (ps.map Prod.snd) := by
        have := congrArg cnt (List.take_append_drop (j + 1) (ps.map Prod.snd))
        rw [cnt_append] at this
        omega
      have hqs : qs.take j ++ qs[j] :: qs.drop (j + 1) = qs := by rw [← List.drop_eq_getElem_cons (by omega), List.take_append_drop]
      have hca := HA.out
      have hcc := HC.out
      have hxo := hx.out
      have hcall := hround.out wr (qs.take j) qs[j] (qs.drop (j + 1)) x (by omega) (by omega) (Nat.le_trans HB0.out HB.out.size) (by rw [hqs]; exact HP.out) (by rw [hqs]; exact HO.out)
      rw [hv1] at hcall
      have hl60 : ((qs[j].2).length : Int) ≤ 1000000000 := by omega
      have hx1 : Aside0 (x + ((qs[j].2).length : Int) = a + (cnt ((ps.map Prod.snd).take (j + 1)) : Int)) := ⟨by omega⟩
      have hf1 : Aside0 ((qs.take j ++ ((.slice A1 (qs[j].2).length c1 : Value), ints x (qs[j].2).length) :: qs.drop (j + 1)).map Prod.fst = ps.map Prod.fst) := ⟨by
        have h9 := congrArg (List.map Prod.fst) hqs
        rw [List.map_append, List.map_cons, hv1] at h9
        rw [← hfst.out, List.map_append, List.map_cons]
        exact h9⟩
      have hs1 : Aside0 ((qs.take j ++ ((.slice A1 (qs[j].2).length c1 : Value), ints x (qs[j].2).length) :: qs.drop (j + 1)).map Prod.snd = marks a ((ps.map Prod.snd).take (j + 1)) ++ (ps.map Prod.snd).drop (j + 1)) := ⟨by
        have hml : (marks a ((ps.map Prod.snd).take j)).length = j := by rw [marks_length, List.length_take, List.length_map]; omega
        rw [htk, marks_append, List.map_append, List.map_take, List.map_cons, List.map_drop, hsnd.out, List.take_left' hml, List.append_assoc, ← hx.out]
        congr 1
        rw [List.drop_append, hml, List.drop_eq_nil_of_le (by omega), List.nil_append, List.drop_drop]
        rw [show j + (j + 1 - j) = j + 1 by omega]
        simp [marks]⟩
      replace hcall := Aside0.mk hcall
      generalize (qs[j].2).length = m at hcall hx1 hf1 hs1 hcell hl60
      clear hx hfst hsnd hs2 htk hcnt hle hqs hca hcc hxo hC hv1 hl1 hC1
      go_wp2_with fail
      (with_reducible refine hcall.out.mono ?_)
      rintro e w' ⟨rfl, hP2, hO2, hb⟩
      replace hP2 := Aside0.mk hP2
      replace hO2 := Aside0.mk hO2
      replace hb := Aside0.mk hb
      go_wp2_with fail
      go_roundw
      case rel => exact ⟨j + 1, _, _, by go_num, rfl, ⟨by omega⟩, hx1, hf1, hs1, hP2, hO2, ⟨below_trans HB.out hb.out⟩⟩
      case measure => simp [intOf]; omega
    · have hl : decide ((j : Int) < (ps.length : Int)) = false := decide_eq_false (by omega)
      obtain rfl : j = ps.length := by omega
      have hx2 : x = a + (cnt (ps.map Prod.snd) : Int) := by rw [hx.out, List.take_of_length_le (by simp)]
      have hs2 : qs.map Prod.snd = marks a (ps.map Prod.snd) := by rw [hsnd.out, List.take_of_length_le (by simp), List.drop_eq_nil_of_le (by simp), List.append_nil]
      have hS := RowsO.S HP.out HO.out
      rw [hs2] at hS
      replace hS := Aside0.mk hS
      replace hx2 := Aside0.mk hx2
      clear hs2 hsnd hfst HP HO hx hlt
      go_wp2_with fail
      go_ret
      exact ⟨by rw [hx2.out]; rfl, hS.out, HB.out⟩
theorem rdL4_at' {xs : List (List Int)} {i : Nat} (h : i < xs.length) : rd_L4 xs (i : Int) = xs[i] := by
  simp [rd_L4, List.getD_eq_getElem?_getD, List.getElem?_eq_getElem h]
theorem cnt_mem {rs : List (List Int)} {r : List Int} (h : r ∈ rs) : r.length ≤ cnt rs := by
  obtain ⟨a, b, rfl⟩ := List.append_of_mem h
  rw [cnt_append, cnt_cons]; omega
theorem eqIntSS_refl (a : List (List Int)) (hc : cnt a ≤ 1000000000) (hl : a.length ≤ 4611686018427387904) : Ev (fun k => laws_eqIntSS.f k a a) true := by
  have key : ∀ (d i : Nat), i + d = a.length → Ev (fun k => laws_eqIntSS.l0 k a a (i : Int)) true := by
    intro d
    induction d with
    | zero =>
      intro i hd
      refine Ev.some_ fun k => ?_
      simp only [laws_eqIntSS.l0]
      rw [if_neg (by omega)]
    | succ d ih =>
      intro i hd
      have hi : i < a.length := by omega
      have hm := cnt_mem (List.getElem_mem hi)
      refine Ev.step (f := fun k => (laws_eqIntS.f k a[i] a[i]).bind fun t103 => (if t103 = true then (laws_eqIntSS.l0 k a a ((i + 1 : Nat) : Int)) else (some false))) (fun k => ?_) (Ev.bind (eqIntS_refl a[i] (by omega)) (Ev.congr (fun k => by rw [if_pos rfl]) (ih (i + 1) (by omega))))
      simp only [laws_eqIntSS.l0]
      rw [if_pos (by omega), if_pos (by omega), if_pos (by omega), rdL4_at' hi, w64 hi hl]
  unfold laws_eqIntSS.f
  refine Ev.congr (f := fun k => laws_eqIntSS.l0 k a a 0) (fun k => by rw [if_pos rfl]) (key a.length 0 (by omega))
theorem marks_get : ∀ (rs : List (List Int)) (a : Int) (i : Nat) (hi : i < rs.length), (marks a rs)[i]'(by rw [marks_length]; exact hi) = ints (a + (cnt (rs.take i) : Int)) rs[i].length
  | r :: rs, a, 0, _ => by simp [marks, cnt]
  | r :: rs, a, i + 1, hi => by
    have h1 := marks_get rs (a + (r.length : Int)) i (by simpa using hi)
    simp only [marks, List.getElem_cons_succ, List.take_succ_cons, cnt_cons]
    rw [h1, Int.natCast_add, Int.add_assoc]
theorem heldIntSS_ev (rs : List (List Int)) (a : Int) (ha : 0 ≤ a ∧ a + (cnt rs : Int) ≤ 1000000000) (hl : rs.length ≤ 1000000000) : Ev (fun k => laws_heldIntSS.f k (marks a rs) a) (a + (cnt rs : Int)) := by
  have key : ∀ (d i : Nat), i + d = rs.length → Ev (fun k => laws_heldIntSS.l0 k (marks a rs) (a + (cnt (rs.take i) : Int)) (i : Int)) (a + (cnt rs : Int)) := by
    intro d
    induction d with
    | zero =>
      intro i hd
      refine Ev.some_ fun k => ?_
      simp only [laws_heldIntSS.l0]
      rw [marks_length, if_neg (by omega), List.take_of_length_le (by omega)]
    | succ d ih =>
      intro i hd
      have hi : i < rs.length := by omega
      have hle : cnt (rs.take i) + rs[i].length + cnt (rs.drop (i + 1)) = cnt rs := by
        have h1 := congrArg cnt (List.take_append_drop (i + 1) rs)
        rw [cnt_append, List.take_succ_eq_append_getElem hi, cnt_append, cnt_cons] at h1
        simp only [cnt, List.map_nil, List.sum_nil, Nat.add_zero] at h1 ⊢
        exact h1
      have hnx : cnt (rs.take (i + 1)) = cnt (rs.take i) + rs[i].length := by
        rw [List.take_succ_eq_append_getElem hi, cnt_append, cnt_cons]; simp [cnt]
      refine Ev.step (f := fun k => (laws_heldIntS.f k (ints (a + (cnt (rs.take i) : Int)) rs[i].length) (a + (cnt (rs.take i) : Int))).bind fun t102 => (if t102 < 0 then (some (-1)) else (laws_heldIntSS.l0 k (marks a rs) t102 ((i + 1 : Nat) : Int)))) (fun k => ?_) (Ev.bind (heldIntS_ev rs[i].length (a + (cnt (rs.take i) : Int)) (by omega) ⟨by omega, by omega⟩) ?_)
      · simp only [laws_heldIntSS.l0]
        rw [if_pos (by rw [marks_length]; omega), if_pos (by omega), rdL4_at' (by rw [marks_length]; exact hi), marks_get rs a i hi, w64 hi (by omega)]
      · refine Ev.congr (fun k => by rw [if_neg (by omega)]) ?_
        have := ih (i + 1) (by omega)
        rw [hnx, Int.natCast_add, ← Int.add_assoc] at this
        exact this
  unfold laws_heldIntSS.f
  have := key rs.length 0 (by omega)
  simpa [cnt] using this
end Go.Proofs.Yteeghncofacmhaa.Q
end
section
/- impl.neighbours by hand. -/
namespace Go.Proofs.Yteeghncofacmhaa.Q
open Go.RowKit Go.Proofs.YteeghncofacmhaaW.PrintWords Go.Proofs.YteeghncofacmhaaW.PrintLast Go.Proofs.YteeghncofacmhaaW.PrintMore
attribute [local go_sem] max2_int min2_int max_two min_two max_three min_three max_four min_four
set_option linter.unusedVariables false
set_option linter.unusedSimpArgs false
set_option maxHeartbeats 2000000 in
set_option maxRecDepth 100000 in
theorem next_closure (W : World) (xs : List S71) (ad : Addr) (c : Nat) (hC : Kd.C k71 W (some ad) xs.length xs) (i : Nat) (hi : i < xs.length) (b1 b2 : Nat) (h1 : W.cell? ⟨b1, 0, none⟩ = some (.slice (some ad) xs.length c)) (h2 : W.cell? ⟨b2, 0, none⟩ = some (.int .i64 (i : Int))) (x : Ch) (hl : (rd_T71 xs (i : Int)).f1.length ≤ 1000) :
    Calls Try.prog 119 #[.agg #[.int .i64 x.f0, .int .i64 x.f1], .pointer (some ⟨b1, 0, none⟩), .pointer (some ⟨b2, 0, none⟩)] W fun e w' => e = .returned (.bool ((rd_T71 xs (i : Int)).f1.contains x)) ∧ Below W.heap.size W w' := by
  obtain ⟨ad', A0, c0, A1, c1, A2, c2, ea, hx0, hx1, hx2, _, _, l1, g1, _, _⟩ := at_T71 hC (i : Int) (by omega) (by omega)
  cases ea
  obtain ⟨k, hk⟩ := containsCh_ev (rd_T71 xs (i : Int)).f1 x (by omega)
  have hq : ∀ W', Below W.heap.size W W' → Calls Try.prog 75 #[.slice A1 (rd_T71 xs (i : Int)).f1.length c1, .agg #[.int .i64 x.f0, .int .i64 x.f1]] W' fun e w' => e = .returned (.bool ((rd_T71 xs (i : Int)).f1.contains x)) ∧ Below W'.heap.size W' w' :=
    fun W' hb => impl_Chord_75.calls k _ _ _ _ _ _ W' (Kd.C_below g1 hb) l1 (hk k (Nat.le_refl _))
  have hb : Below W.heap.size W (W.alloc (.cells #[.int .i64 x.f0, .int .i64 x.f1] 64)) := below_alloc (Below.refl _ W) _
  rw [Int.toNat_natCast] at hx1
  have h1' := (hb.cell (World.block_lt_of_cell? W _ h1)).trans h1
  have h2' := (hb.cell (World.block_lt_of_cell? W _ h2)).trans h2
  have hx1' := (hb.cell (World.block_lt_of_cell? W _ hx1)).trans hx1
  have k0 : (W.alloc (.cells #[.int .i64 x.f0, .int .i64 x.f1] 64)).cell? ⟨W.heap.size, 0, none⟩ = some (.int .i64 x.f0) := new_cell _ _ _ 0
  have k1 : (W.alloc (.cells #[.int .i64 x.f0, .int .i64 x.f1] 64)).cell? ⟨W.heap.size, 1, none⟩ = some (.int .i64 x.f1) := new_cell _ _ _ 1
  generalize (rd_T71 xs (i : Int)).f1.contains x = r at hq ⊢
  generalize (rd_T71 xs (i : Int)).f1.length = m at hq hx1'
  have p101 := eq_true (show 0 ≤ (i : Int) by omega)
  have q101 := eq_true (show (i : Int) < (xs.length : Int) by omega)
  have q102 : decide ((i : Int) < (xs.length : Int)) = true := decide_eq_true (by omega)
  have hu := Try.underlying67
  have hu2 := Try.underlying64
  have hu3 := Try.underlying71
  have hqw := hq (W.alloc (.cells #[.int .i64 x.f0, .int .i64 x.f1] 64)).drew (below_drew hb)
  replace hqw := Aside0.mk hqw
  clear hk hq hC hx0 hx1 hx2 l1 g1 hl h1 h2
  go_enter Try.func119, Try.ntmps119
  have hbb := Aside0.mk hb
  clear hb
  go_wp2_with fail
  refine wp_region_still_tail 6 (by kernel_rfl) (by kernel_rfl) ?_
  simp only [List.take_succ_cons, List.take_zero, List.drop_succ_cons, List.drop_zero]
  rw [show ∀ w : World, ({ w with drawn := w.drawn + 1 } : World) = w.drew from fun _ => rfl]
  have h1d : (W.alloc (.cells #[.int .i64 x.f0, .int .i64 x.f1] 64)).drew.cell? ⟨b1, 0, none⟩ = some (.slice (some ad) xs.length c) := h1'
  have h2d : (W.alloc (.cells #[.int .i64 x.f0, .int .i64 x.f1] 64)).drew.cell? ⟨b2, 0, none⟩ = some (.int .i64 (i : Int)) := h2'
  have h3d : (W.alloc (.cells #[.int .i64 x.f0, .int .i64 x.f1] 64)).drew.cell? ⟨(ad.add (i * 3)).block, (ad.add (i * 3)).off + 1, none⟩ = some (.slice A1 m c1) := hx1'
  have h4d : (W.alloc (.cells #[.int .i64 x.f0, .int .i64 x.f1] 64)).drew.cell? ⟨W.heap.size, 0, none⟩ = some (.int .i64 x.f0) := k0
  have h5d : (W.alloc (.cells #[.int .i64 x.f0, .int .i64 x.f1] 64)).drew.cell? ⟨W.heap.size, 1, none⟩ = some (.int .i64 x.f1) := k1
  have hbd : Below W.heap.size W (W.alloc (.cells #[.int .i64 x.f0, .int .i64 x.f1] 64)).drew := below_drew hbb.out
  clear h1' h2' hx1' k0 k1 hbb
  generalize (W.alloc (.cells #[.int .i64 x.f0, .int .i64 x.f1] 64)).drew = V at hqw h1d h2d h3d h4d h5d hbd ⊢
  replace hbd := Aside0.mk hbd
  repeat still_step
  try refine wpStill_nil ?_
  go_wp2_with fail
  (with_reducible refine hqw.out.mono ?_)
  rintro e w' ⟨rfl, hb⟩
  replace hb := Aside0.mk hb
  go_wp2_with fail
  go_ret
  exact ⟨rfl, below_step hbd.out hb.out⟩
/-- Two regions share a chord of their edges. -/
def touch (xs : List S71) (i k : Nat) : Bool := (rd_T71 xs (i : Int)).f1.any fun x => (rd_T71 xs (k : Int)).f1.contains x
/-- All pairs i < k < n of which t holds, in order. -/
def pairRow (t : Nat → Nat → Bool) (i m : Nat) : List (List Int) := (List.range m).flatMap fun j => if t i (i + 1 + j) = true then [[(i : Int), ((i + 1 + j : Nat) : Int)]] else []
def pairsBy (t : Nat → Nat → Bool) (n m : Nat) : List (List Int) := (List.range m).flatMap fun i => pairRow t i (n - (i + 1))
theorem pairRow_succ (t : Nat → Nat → Bool) (i m : Nat) : pairRow t i (m + 1) = pairRow t i m ++ (if t i (i + 1 + m) = true then [[(i : Int), ((i + 1 + m : Nat) : Int)]] else []) := by
  unfold pairRow; rw [List.range_succ, List.flatMap_append]; simp
theorem pairsBy_succ (t : Nat → Nat → Bool) (n m : Nat) : pairsBy t n (m + 1) = pairsBy t n m ++ pairRow t m (n - (m + 1)) := by
  unfold pairsBy; rw [List.range_succ, List.flatMap_append]; simp
theorem pairRow_len (t : Nat → Nat → Bool) (i : Nat) : ∀ m, (pairRow t i m).length ≤ m
  | 0 => by simp [pairRow]
  | m + 1 => by
    rw [pairRow_succ, List.length_append]
    have := pairRow_len t i m
    split <;> simp <;> omega
theorem pairsBy_len (t : Nat → Nat → Bool) (n : Nat) : ∀ m, (pairsBy t n m).length ≤ m * n
  | 0 => by simp [pairsBy]
  | m + 1 => by
    rw [pairsBy_succ, List.length_append, Nat.add_mul]
    have := pairsBy_len t n m
    have := pairRow_len t m (n - (m + 1))
    omega
theorem RowsP.grown {W W1 : World} {B : Nat} {v : Value} {ps qs : List (Value × List Int)} (h : RowsP W B ps) (hO : RowsO W B v qs) (hg : W.grownBy W1 v.ownBlock) : RowsP W1 B ps :=
  ⟨fun p hp => Kd.R_mono (Kd.R_step (Kd.R_tight rfl (h.1 p hp)) (fun k ho hlt => hg.block k hlt (fun he => by
    obtain ⟨c1, h1⟩ := hO.typed k he.symm
    obtain ⟨c2, h2⟩ := Kd.R_typed (h.1 p hp) k ho.symm
    rw [h1] at h2
    injection h2 with h2
    injection h2 with _ h2
    exact absurd h2 (by decide)))) (fun _ _ => trivial), h.2⟩
theorem RowsO.ne {W : World} {B k t : Nat} {v : Value} {ps : List (Value × List Int)} {cells : Array Value} (h : RowsO W B v ps) (hk : W.heap[k]? = some (.cells cells t (0, 0))) (ht : t ≠ 24) : some k ≠ v.ownBlock := fun he => by
  obtain ⟨c1, h1⟩ := h.typed k he.symm
  rw [h1] at hk
  injection hk with hk
  injection hk with _ hk
  exact ht hk.symm
theorem pair_R (W : World) (a b : Int) : (Kd.int .i64).R 3 (W.alloc (.cells #[.int .i64 a, .int .i64 b] 3)) W.heap.size (fun _ => True) (.slice (some ⟨W.heap.size, 0, none⟩) 2 2) [a, b] :=
  ⟨fun _ _ => trivial, [.int .i64 a, .int .i64 b], World.ownsRow_lit W #[.int .i64 a, .int .i64 b] 2 (Nat.le_refl _) (by decide) rfl, Reps.one rfl (Reps.one rfl (Reps.none _ _))⟩
def kOf (v : Value) (w : World) : Nat := match v with | .pointer (some a) => (intOf ((w.cell? a).getD undef)).toNat | _ => 0
theorem kOf_at {w : World} {a : Addr} {k : Nat} (h : w.cell? a = some (.int .i64 (k : Int))) : kOf (.pointer (some a)) w = k := by simp [kOf, h, intOf]
def impl_neighbours.f (xs : List S71) : List (List Int) := pairsBy (touch xs) xs.length xs.length
set_option maxHeartbeats 8000000 in
set_option maxRecDepth 100000 in
theorem neighbours_calls (A : Option Addr) (c : Nat) (xs : List S71) (w : World) (hC : Kd.C k71 w A xs.length xs) (hc : xs.length ≤ c) (hn : xs.length ≤ 1000) (hs : ∀ x ∈ xs, x.f1.length ≤ 1000) :
    Calls Try.prog 81 #[.slice A xs.length c] w fun e w' => ∃ v0_ : Value, e = .returned v0_ ∧ Kd.S (Kd.slice 3 (Kd.int .i64)) 24 w' w.heap.size (fun _ => True) v0_ (impl_neighbours.f xs) ∧ Below w.heap.size w w' := by
  have hrs : ∀ i : Nat, i < xs.length → (rd_T71 xs (i : Int)).f1.length ≤ 1000 := fun i hi => by
    have : rd_T71 xs (i : Int) = xs[i] := by simp [rd_T71, List.getD_eq_getElem?_getD, List.getElem?_eq_getElem hi]
    rw [this]; exact hs _ (List.getElem_mem hi)
  have HC := Aside0.mk hC
  -- the call of ContainsFunc
  have hcall : ∀ (W : World) (i k : Nat) (A1 : Option Addr) (c1 b1 b2 : Nat), i < xs.length → k < xs.length → Below w.heap.size w W → Kd.C k64 W A1 (rd_T71 xs (i : Int)).f1.length (rd_T71 xs (i : Int)).f1 → W.cell? ⟨b1, 0, none⟩ = some (.slice A xs.length c) → W.cell? ⟨b2, 0, none⟩ = some (.int .i64 (k : Int)) →
      Calls Try.prog 114 #[.slice A1 (rd_T71 xs (i : Int)).f1.length c1, .func (.func 119) #[] #[.pointer (some ⟨b1, 0, none⟩), .pointer (some ⟨b2, 0, none⟩)]] W fun e w' => e = .returned (.bool (touch xs i k)) ∧ Below W.heap.size W w' := by
    intro W i k A1 c1 b1 b2 hi hk hW hC1 hb1 hb2
    obtain ⟨_, _, hR⟩ := id hC
    obtain ⟨ad, ea, _⟩ := hR (by omega)
    cases ea
    exact any_ch W A1 c1 _ hC1 119 _ (enters_of Try.func119 (by kernel_rfl) rfl) (fun x => (rd_T71 xs (k : Int)).f1.contains x) (fun W' x hx hb => next_closure W' xs ad c (Kd.C_below (Kd.C_below hC hW) hb) k hk b1 b2 ((hb.cell (World.block_lt_of_cell? _ _ hb1)).trans hb1) ((hb.cell (World.block_lt_of_cell? _ _ hb2)).trans hb2) x (hrs k hk))
  replace hcall := Aside0.mk hcall
  have HRS := Aside0.mk hrs
  unfold impl_neighbours.f
  clear hC hs hrs
  have hu := Try.underlying67
  have hu3 := Try.underlying71
  have k0 : (w.alloc (.cells #[.slice A xs.length c] 67)).cell? ⟨w.heap.size, 0, none⟩ = some (.slice A xs.length c) := new_cell _ _ _ 0
  have B0 : Below w.heap.size w (w.alloc (.cells #[.slice A xs.length c] 67)) := below_alloc (Below.refl _ w) _
  have hg0 : w.heap.size < (w.alloc (.cells #[.slice A xs.length c] 67)).heap.size := by simp
  replace k0 := Aside0.mk k0
  replace B0 := Aside0.mk B0
  replace hg0 := Aside0.mk hg0
  go_enter Try.func81, Try.ntmps81
  go_wp2_with fail
  replace k0 := k0.out
  replace B0 := B0.out
  replace hg0 := hg0.out
  have hsz0 : (w.alloc (.cells #[.slice A xs.length c] 67)).heap.size = w.heap.size + 1 := by simp
  generalize hgg : w.heap.size = g0 at k0 hg0 hsz0 ⊢
  generalize (w.alloc (.cells #[.slice A xs.length c] 67)) = wb at k0 B0 hg0 hsz0 ⊢
  have HCb := Aside0.mk (Kd.C_below HC.out B0)
  have K0 := Aside0.mk k0
  have HB0 := Aside0.mk B0
  have HG0 := Aside0.mk hg0
  have HGG := Aside0.mk hgg
  clear k0 B0 hg0 hgg
  have O0 : Aside0 (RowsO (wb.alloc (.cells #[] 24)) wb.heap.size (.slice (some ⟨g0 + 1, 0, none⟩) 0 0) []) := ⟨by rw [← hsz0]; exact none_row wb wb.heap.size 24 (Nat.le_refl _)⟩
  clear hsz0
  have B1 : Aside0 (Below wb.heap.size wb (wb.alloc (.cells #[] 24))) := ⟨below_alloc (Below.refl _ _) _⟩
  go_loopw [3, 10] (fun v3 v10 wr => ∃ (i : Nat) (ps : List (Value × List Int)), v10 = .int .i64 (i : Int) ∧ Aside0 (i ≤ xs.length) ∧ Aside0 (ps.map Prod.snd = pairsBy (touch xs) xs.length i) ∧ Aside0 (RowsP wr wb.heap.size ps) ∧ Aside0 (RowsO wr wb.heap.size v3 ps) ∧ Aside0 (Below wb.heap.size wb wr)) (fun _ v10 _ => xs.length - (intOf v10).toNat)
  case atStart => exact ⟨0, [], rfl, ⟨Nat.zero_le _⟩, ⟨rfl⟩, ⟨RowsP.nil _ _⟩, O0, B1⟩
  case round =>
    clear O0 B1
    obtain ⟨i, ps, rfl, hi, hps, HP, HO, HB⟩ := hrel
    replace hi := hi.out
    by_cases hlt : i < xs.length
    · have hl : decide ((i : Int) < (xs.length : Int)) = true := decide_eq_true (by omega)
      obtain ⟨ad, A0, c0, A1, c1, A2, c2, ea, hx0, hx1, hx2, _, _, l1, g1, _, _⟩ := at_T71 HCb.out (i : Int) (by omega) (by omega)
      cases ea
      replace hx0 := (HB.out.cell (World.block_lt_of_cell? wb _ hx0)).trans hx0
      replace hx1 := (HB.out.cell (World.block_lt_of_cell? wb _ hx1)).trans hx1
      replace hx2 := (HB.out.cell (World.block_lt_of_cell? wb _ hx2)).trans hx2
      rw [Int.toNat_natCast] at hx0 hx1 hx2
      have g1 := Aside0.mk g1
      have hrl := HRS.out i hlt
      generalize hrr : (rd_T71 xs (i : Int)).f0.length = m0 at hx0
      generalize hr2 : (rd_T71 xs (i : Int)).f2.length = m2 at hx2
      clear hrr hr2 hrl
      generalize hm1 : (rd_T71 xs (i : Int)).f1.length = m1 at hx1
      replace hm1 := Aside0.mk hm1
      go_wp2_with fail
      have c5 : (wr.alloc (.cells #[.slice A0 m0 c0, .slice A1 m1 c1, .slice A2 m2 c2] 71)).cell? ⟨wr.heap.size, 1, none⟩ = some (.slice A1 m1 c1) := new_cell _ _ _ 1
      have t5 : (wr.alloc (.cells #[.slice A0 m0 c0, .slice A1 m1 c1, .slice A2 m2 c2] 71)).heap[wr.heap.size]? = some (.cells #[.slice A0 m0 c0, .slice A1 m1 c1, .slice A2 m2 c2] 71 (0, 0)) := new_block _ _
      have b5 : Below wr.heap.size wr (wr.alloc (.cells #[.slice A0 m0 c0, .slice A1 m1 c1, .slice A2 m2 c2] 71)) := below_alloc (Below.refl _ _) _
      have z5 : (wr.alloc (.cells #[.slice A0 m0 c0, .slice A1 m1 c1, .slice A2 m2 c2] 71)).heap.size = wr.heap.size + 1 := by simp
      have g5l : wb.heap.size ≤ wr.heap.size := HB.out.size
      generalize (wr.alloc (.cells #[.slice A0 m0 c0, .slice A1 m1 c1, .slice A2 m2 c2] 71)) = w5 at c5 t5 b5 z5 ⊢
      have HP5 := HP.out.below b5
      have HO5 := HO.out.below b5
      have HB5 := below_then HB.out g5l b5
      clear hx0 hx1 hx2 HP HO HB
      generalize hg5 : wr.heap.size = g5 at c5 t5 b5 z5 g5l ⊢
      clear hg5 b5
      have k6 : (w5.alloc (.cells #[.int .i64 ((i : Int) + 1)] 3)).cell? ⟨g5 + 1, 0, none⟩ = some (.int .i64 ((i + 1 + 0 : Nat) : Int)) := by
        rw [← z5]
        have : ((i + 1 + 0 : Nat) : Int) = (i : Int) + 1 := by omega
        rw [this]
        exact new_cell _ _ _ 0
      have t6 : (w5.alloc (.cells #[.int .i64 ((i : Int) + 1)] 3)).heap[g5 + 1]? = some (.cells #[.int .i64 ((i + 1 + 0 : Nat) : Int)] 3 (0, 0)) := by
        rw [← z5]
        have : ((i + 1 + 0 : Nat) : Int) = (i : Int) + 1 := by omega
        rw [this]
        exact new_block _ _
      have b6 : Below w5.heap.size w5 (w5.alloc (.cells #[.int .i64 ((i : Int) + 1)] 3)) := below_alloc (Below.refl _ _) _
      have g6l : w5.heap.size ≤ g5 + 1 := by omega
      generalize (w5.alloc (.cells #[.int .i64 ((i : Int) + 1)] 3)) = w6 at k6 t6 b6 ⊢
      have P6 := Aside0.mk (HP5.below b6)
      have O6 := Aside0.mk (HO5.below b6)
      have B6 := Aside0.mk (below_then HB5 (by omega) b6)
      have C6 := Aside0.mk ((b6.cell (World.block_lt_of_cell? w5 _ c5)).trans c5)
      have T5 := Aside0.mk ((b6.block g5 (by omega)).trans t5)
      have K6 := Aside0.mk k6
      have T6 := Aside0.mk t6
      have hapart : Aside0 (∀ p ∈ ps, ∀ k, p.1.ownBlock = some k → k ≠ g5 + 1) := ⟨fun p hp k hk => by have := HP5.lt hp hk; omega⟩
      clear c5 t5 z5 HP5 HO5 HB5 k6 t6 b6 g6l
      generalize g5 + 1 = g6 at K6 T6 hapart ⊢
      clear g5l
      go_loopw [3, 6] (fun v3 v6 wi => ∃ (j : Nat) (qs : List (Value × List Int)) (b6 : Nat), v6 = .pointer (some ⟨b6, 0, none⟩) ∧ Aside0 (j ≤ xs.length - (i + 1)) ∧ Aside0 (qs.map Prod.snd = pairsBy (touch xs) xs.length i ++ pairRow (touch xs) i j) ∧ Aside0 (RowsP wi wb.heap.size qs) ∧ Aside0 (RowsO wi wb.heap.size v3 qs) ∧ Aside0 (Below wb.heap.size wb wi) ∧ Aside0 (wi.heap[g5]? = some (.cells #[.slice A0 m0 c0, .slice A1 m1 c1, .slice A2 m2 c2] 71 (0, 0))) ∧ Aside0 (wi.heap[b6]? = some (.cells #[.int .i64 ((i + 1 + j : Nat) : Int)] 3 (0, 0)))) (fun _ v6 wi => xs.length - kOf v6 wi)
      case atStart => exact ⟨0, ps, g6, rfl, ⟨Nat.zero_le _⟩, ⟨by rw [hps.out]; simp [pairRow]⟩, P6, O6, B6, T5, T6⟩
      case round =>
        clear P6 O6 B6 T5 T6 C6 K6 hapart hps
        obtain ⟨j, qs, b6, rfl, hj, hqs, HP, HO, HB, T5, T6⟩ := hrel
        obtain ⟨wi, rfl⟩ : ∃ wi : World, wi = wr := ⟨_, rfl⟩
        have hj := hj.out
        have hc6 : wi.cell? ⟨b6, 0, none⟩ = some (.int .i64 ((i + 1 + j : Nat) : Int)) := blk_cell T6.out 0
        have hc5 : wi.cell? ⟨g5, 1, none⟩ = some (.slice A1 m1 c1) := blk_cell T5.out 1
        have hc0 : wi.cell? ⟨g0, 0, none⟩ = some (.slice (some ad) xs.length c) := (HB.out.cell HG0.out).trans K0.out
        have hkm := Aside0.mk (kOf_at hc6)
        by_cases hlt2 : i + 1 + j < xs.length
        · have hl2 : decide (((i + 1 + j : Nat) : Int) < (xs.length : Int)) = true := decide_eq_true (by omega)
          have hcl := hcall.out wi i (i + 1 + j) A1 c1 g0 b6 hlt hlt2 (below_step HB0.out HB.out) (by have := Kd.C_below g1.out HB.out; exact this) hc0 hc6
          rw [hm1.out] at hcl
          replace hcl := Aside0.mk hcl
          have hwk : wrap64 (((i + 1 + j : Nat) : Int) + 1) = ((i + 1 + (j + 1) : Nat) : Int) := by rw [w64s (by omega) (by omega)]; omega
          generalize hkk : ((i + 1 + j : Nat) : Int) = kk at hc6 hl2 hwk
          replace hwk := Aside0.mk hwk
          replace hkk := Aside0.mk hkk
          go_wp2_with fail
          (with_reducible refine hcl.out.mono ?_)
          rintro e w2 ⟨rfl, hb2⟩
          have hgl : wb.heap.size ≤ wi.heap.size := HB.out.size
          have HP2 := Aside0.mk (HP.out.below hb2)
          have HO2 := Aside0.mk (HO.out.below hb2)
          have HB2 := Aside0.mk (below_then HB.out hgl hb2)
          have T52 := Aside0.mk ((hb2.block g5 (Array.getElem?_eq_some_iff.1 T5.out).1).trans T5.out)
          have T62 := Aside0.mk ((hb2.block b6 (Array.getElem?_eq_some_iff.1 T6.out).1).trans T6.out)
          clear HP HO HB T5 T6 hc6 hc5 hc0 hb2 hgl hcl
          rw [hkk.out] at T62
          cases htc : touch xs i (i + 1 + j) with
          | false =>
            have hq1 : Aside0 (qs.map Prod.snd = pairsBy (touch xs) xs.length i ++ pairRow (touch xs) i (j + 1)) := ⟨by rw [hqs.out, pairRow_succ, htc]; simp⟩
            replace htc := Aside0.mk htc
            have hc62 : w2.cell? ⟨b6, 0, none⟩ = some (.int .i64 kk) := blk_cell T62.out 0
            go_wp2_with fail
            rw [hwk.out]
            refine ⟨⟨j + 1, qs, w2.heap.size, rfl, ⟨by omega⟩, hq1, ⟨HP2.out.below (below_alloc (Below.refl _ _) _)⟩, ⟨HO2.out.below (below_alloc (Below.refl _ _) _)⟩, ⟨below_then HB2.out HB2.out.size (below_alloc (Below.refl _ _) _)⟩, ⟨((below_alloc (Below.refl _ w2) _).block g5 (Array.getElem?_eq_some_iff.1 T52.out).1).trans T52.out⟩, ⟨new_block _ _⟩⟩, ?_⟩
            rw [hkm.out, kOf_at (k := i + 1 + (j + 1)) (new_cell w2 _ _ 0)]
            omega
          | true =>
            have hq1 : Aside0 ((qs ++ [((.slice (some ⟨w2.heap.size, 0, none⟩) 2 2 : Value), [(i : Int), kk])]).map Prod.snd = pairsBy (touch xs) xs.length i ++ pairRow (touch xs) i (j + 1)) := ⟨by rw [List.map_append, hqs.out, pairRow_succ, htc, if_pos rfl, ← hkk.out, List.append_assoc]; rfl⟩
            have hql : qs.length ≤ 2000000 := by
              have h1 := congrArg List.length hqs.out
              rw [List.length_map, List.length_append] at h1
              have h2 := pairsBy_len (touch xs) xs.length i
              have h3 := pairRow_len (touch xs) i j
              have h4 : i * xs.length ≤ 1000 * 1000 := Nat.mul_le_mul (by omega) (by omega)
              omega
            replace htc := Aside0.mk htc
            have hc62 : w2.cell? ⟨b6, 0, none⟩ = some (.int .i64 kk) := blk_cell T62.out 0
            have bP : Below w2.heap.size w2 (w2.alloc (.cells #[.int .i64 (i : Int), .int .i64 kk] 3)) := below_alloc (Below.refl _ _) _
            have HO3 := Aside0.mk (HO2.out.below bP)
            have HB3 := Aside0.mk (below_then HB2.out HB2.out.size bP)
            have HP3 : Aside0 (RowsP (w2.alloc (.cells #[.int .i64 (i : Int), .int .i64 kk] 3)) wb.heap.size (qs ++ [(.slice (some ⟨w2.heap.size, 0, none⟩) 2 2, [(i : Int), kk])])) := ⟨by
              have h1 := (HP2.out.below bP).cons (u := .slice (some ⟨w2.heap.size, 0, none⟩) 2 2) (Kd.R_lower (pair_R w2 (i : Int) kk) HB2.out.size) (fun p hp k hk he => by
                have h2 := HP2.out.lt hp he
                have h3 : w2.heap.size = k := by simpa [Value.ownBlock] using hk
                omega)
              exact h1.perm (List.perm_append_comm (l₁ := [_]))⟩
            have T53 := Aside0.mk ((bP.block g5 (Array.getElem?_eq_some_iff.1 T52.out).1).trans T52.out)
            have hne5 := Aside0.mk (HO3.out.ne T53.out (by decide))
            have T63 := Aside0.mk ((bP.block b6 (Array.getElem?_eq_some_iff.1 T62.out).1).trans T62.out)
            have hne6 := Aside0.mk (HO3.out.ne T63.out (by decide))
            clear bP
            go_wp2_with (((with_reducible refine gate_builtin (b := .append) (xs := #[.tmp 27, .tmp 31]) rfl ?_); at_builtin; refine Kd.R_append (Kd.raw 1) (w0 := wb) wb.heap.size rfl (.tmp 27) (.tmp 31) 37 24 (.slice none 0 0) 24 rfl Try.underlying37 info24 rfl (by decide) (by omega) u3 (qs.map fun p : Value × List Int => [p.1]) [.slice (some ⟨w2.heap.size, 0, none⟩) 2 2] [.slice (some ⟨w2.heap.size, 0, none⟩) 2 2] (fun _ => True) (fun _ => False) rfl (by show Value.slice (some ⟨w2.heap.size + 1, 0, none⟩) 1 1 = _; simp) ⟨rfl, rfl, fun u hu => by rw [List.mem_singleton.1 hu]; rfl⟩ (fun _ hk => hk.elim) (fun _ _ => trivial) HO3.out HB3.out HB3.out.size ?aL ?_; (case aL => simp; omega); intro v5 w5 ho_ hb_ hg_ ha_; have HO5 := Aside0.mk ho_; have HB5 := Aside0.mk hb_; have hc63 : w5.cell? ⟨b6, 0, none⟩ = some (.int .i64 kk) := blk_cell ((hg_.block b6 (Array.getElem?_eq_some_iff.1 T63.out).1 hne6.out).trans T63.out) 0; have HG5 := Aside0.mk hg_; clear ho_ hb_ hg_ ha_))
            rw [hwk.out]
            have l5 : g5 < w5.heap.size := Nat.lt_of_lt_of_le (Array.getElem?_eq_some_iff.1 T53.out).1 HG5.out.size
            refine ⟨⟨j + 1, qs ++ [(.slice (some ⟨w2.heap.size, 0, none⟩) 2 2, [(i : Int), kk])], w5.heap.size, rfl, ⟨by omega⟩, hq1, ⟨(HP3.out.grown HO3.out HG5.out).below (below_alloc (Below.refl _ _) _)⟩, ⟨RowsO.below (ps := qs ++ [(.slice (some ⟨w2.heap.size, 0, none⟩) 2 2, [(i : Int), kk])]) (by unfold RowsO; rw [List.map_append]; exact HO5.out) (below_alloc (Below.refl _ _) _)⟩, ⟨below_then HB5.out HB5.out.size (below_alloc (Below.refl _ _) _)⟩, ⟨((below_alloc (Below.refl _ w5) _).block g5 l5).trans ((HG5.out.block g5 (Array.getElem?_eq_some_iff.1 T53.out).1 hne5.out).trans T53.out)⟩, ⟨new_block _ _⟩⟩, ?_⟩
            rw [hkm.out, kOf_at (k := i + 1 + (j + 1)) (new_cell w5 _ _ 0)]
            omega
        · have hl2 : decide (((i + 1 + j : Nat) : Int) < (xs.length : Int)) = false := decide_eq_false (by omega)
          have hq1 : Aside0 (qs.map Prod.snd = pairsBy (touch xs) xs.length (i + 1)) := ⟨by rw [hqs.out, pairsBy_succ, show xs.length - (i + 1) = j by omega]⟩
          generalize ((i + 1 + j : Nat) : Int) = kk at hc6 hl2
          clear hc5
          go_wp2_with fail
          go_roundw
          case rel => exact ⟨i + 1, qs, by go_num, ⟨by omega⟩, hq1, HP, HO, HB⟩
          case measure => simp [intOf]; omega
    · have hl : decide ((i : Int) < (xs.length : Int)) = false := decide_eq_false (by omega)
      obtain rfl : i = xs.length := by omega
      have hS := RowsO.S HP.out HO.out
      rw [hps.out] at hS
      have hS2 := Aside0.mk (Kd.S_lower hS HB0.out.size)
      have HBf := Aside0.mk (below_step HB0.out HB.out)
      clear hS HP HO hps
      go_wp2_with fail
      go_ret
      exact ⟨_, rfl, hS2.out, HBf.out⟩
end Go.Proofs.Yteeghncofacmhaa.Q
end
section
/- spec.reNext by hand. -/
namespace Go.Proofs.Yteeghncofacmhaa.Q
open Go.RowKit Go.Proofs.YteeghncofacmhaaW.PrintWords Go.Proofs.YteeghncofacmhaaW.PrintLast Go.Proofs.YteeghncofacmhaaW.PrintMore
attribute [local go_sem] max2_int min2_int max_two min_two max_three min_three max_four min_four
set_option linter.unusedVariables false
set_option linter.unusedSimpArgs false
/-- How many points of the second list are in the first. -/
def common (F G : List Int) : Nat := G.countP (fun p => F.contains p)
def cm (F : List (List Int)) (i k : Nat) : Bool := decide (common (rd_L4 F (i : Int)) (rd_L4 F (k : Int)) = 2)
def reNextOf (F : List (List Int)) : List (List Int) := pairsBy (cm F) F.length F.length
set_option maxHeartbeats 8000000 in
set_option maxRecDepth 100000 in
theorem reNext_calls (a0 : Int) (A : Option Addr) (c : Nat) (l : List S64) (F : List (List Int)) (w : World) (hr : Kd.C k64 w A l.length l) (hc : l.length ≤ c) (hF : spec_reList.f a0 l = some F) (hn : F.length ≤ 1000) (hs : ∀ x ∈ F, x.length ≤ 1000) :
    Calls Try.prog 80 #[.int .i64 a0, .slice A l.length c] w fun e w' => ∃ v0_ : Value, e = .returned v0_ ∧ Kd.S (Kd.slice 3 (Kd.int .i64)) 24 w' w.heap.size (fun _ => True) v0_ (reNextOf F) ∧ Below w.heap.size w w' := by
  have hrs : ∀ i : Nat, i < F.length → (rd_L4 F (i : Int)).length ≤ 1000 := fun i hi => by
    rw [rdL4_at' hi]; exact hs _ (List.getElem_mem hi)
  have h57 := spec_reList.calls a0 A c l F w hr hc hF
  have HRS := Aside0.mk hrs
  replace h57 := Aside0.mk h57
  unfold reNextOf
  clear hs hrs hr hc hF
  have hu := Try.underlying37
  go_enter Try.func80, Try.ntmps80
  go_wp2_with fail
  (with_reducible refine h57.out.mono ?_)
  rintro e w1 ⟨v0, rfl, hS1, hb1⟩
  obtain ⟨A5, c5, rfl, hl5, hC5⟩ := Kd.S_reads hS1
  have HC := Aside0.mk hC5
  have HB1 := Aside0.mk hb1
  clear hS1 hC5 hb1 h57
  go_wp2_with fail
  go_loopw [6, 18] (fun v6 v18 wr => ∃ (i : Nat) (ps : List (Value × List Int)), v18 = .int .i64 (i : Int) ∧ Aside0 (i ≤ F.length) ∧ Aside0 (ps.map Prod.snd = pairsBy (cm F) F.length i) ∧ Aside0 (RowsP wr w1.heap.size ps) ∧ Aside0 (RowsO wr w1.heap.size v6 ps) ∧ Aside0 (Below w1.heap.size w1 wr)) (fun _ v18 _ => F.length - (intOf v18).toNat)
  case atStart => exact ⟨0, [], rfl, ⟨Nat.zero_le _⟩, ⟨rfl⟩, ⟨RowsP.nil _ _⟩, ⟨Kd.R_nil _ _ _ _ _⟩, ⟨Below.refl _ _⟩⟩
  case round =>
    obtain ⟨i, ps, rfl, hi, hps, HP, HO, HB⟩ := hrel
    replace hi := hi.out
    by_cases hlt : i < F.length
    · have hl : decide ((i : Int) < (F.length : Int)) = true := decide_eq_true (by omega)
      obtain ⟨ad, A0, c0, ea, hx0, hl0, hC0⟩ := at_L4 HC.out (i : Int) (by omega) (by omega)
      cases ea
      replace hx0 := (HB.out.cell (World.block_lt_of_cell? w1 _ hx0)).trans hx0
      rw [Int.toNat_natCast] at hx0
      have HC0 := Aside0.mk hC0
      have HL0 := Aside0.mk hl0
      have hri := HRS.out i hlt
      generalize hFi : rd_L4 F (i : Int) = Fi at hx0 HC0 HL0 hri
      replace hFi := Aside0.mk hFi
      clear hC0 hl0
      replace hri := Aside0.mk hri
      go_wp2_with fail
      clear hx0
      obtain ⟨wo, rfl⟩ : ∃ wo : World, wo = wr := ⟨_, rfl⟩
      go_loopw [6, 9] (fun v6 v9 wi => ∃ (j : Nat) (qs : List (Value × List Int)), v9 = .int .i64 ((i + 1 + j : Nat) : Int) ∧ Aside0 (j ≤ F.length - (i + 1)) ∧ Aside0 (qs.map Prod.snd = pairsBy (cm F) F.length i ++ pairRow (cm F) i j) ∧ Aside0 (RowsP wi w1.heap.size qs) ∧ Aside0 (RowsO wi w1.heap.size v6 qs) ∧ Aside0 (Below w1.heap.size w1 wi)) (fun _ v9 _ => F.length - (intOf v9).toNat)
      case atStart => exact ⟨0, ps, by go_num, ⟨Nat.zero_le _⟩, ⟨by rw [hps.out]; simp [pairRow]⟩, HP, HO, HB⟩
      case round =>
        clear HP HO HB hps
        obtain ⟨j, qs, rfl, hj, hqs, HP, HO, HB⟩ := hrel
        obtain ⟨wi, rfl⟩ : ∃ wi : World, wi = wr := ⟨_, rfl⟩
        have hj := hj.out
        by_cases hlt2 : i + 1 + j < F.length
        · have hl2 : decide (((i + 1 + j : Nat) : Int) < (F.length : Int)) = true := decide_eq_true (by omega)
          obtain ⟨ad', A1, c1, ea, hx1, hl1, hC1⟩ := at_L4 HC.out ((i + 1 + j : Nat) : Int) (by omega) (by omega)
          cases ea
          replace hx1 := (HB.out.cell (World.block_lt_of_cell? w1 _ hx1)).trans hx1
          rw [Int.toNat_natCast] at hx1
          have HC1 := Aside0.mk (Kd.C_below hC1 HB.out)
          have HCi := Aside0.mk (Kd.C_below HC0.out HB.out)
          have hrk := HRS.out (i + 1 + j) hlt2
          have hwk : wrap64 (((i + 1 + j : Nat) : Int) + 1) = ((i + 1 + (j + 1) : Nat) : Int) := by rw [w64s (by omega) (by omega)]; omega
          generalize hFk : rd_L4 F ((i + 1 + j : Nat) : Int) = Fk at hx1 HC1 hrk
          replace hFk := Aside0.mk hFk
          clear hl1 hC1
          have hkn : Aside0 (i + 1 + j < F.length) := ⟨hlt2⟩
          have hidx : (i + 1 + j : Nat) = ((i + 1 + j : Nat) : Int).toNat := by omega
          have p1 : (0 : Int) ≤ ((i + 1 + j : Nat) : Int) := by omega
          generalize hkk : ((i + 1 + j : Nat) : Int) = kk at hl2 hwk hidx p1
          rw [hidx] at hx1
          have hk1 : Aside0 (kk + 1 = ((i + 1 + (j + 1) : Nat) : Int)) := ⟨by omega⟩
          clear hwk
          replace hkk := Aside0.mk hkk
          go_wp2_with fail
          clear hx1
          go_loopw [10, 36] (fun v10 v36 we => ∃ (q : Nat), v36 = .int .i64 (q : Int) ∧ v10 = .int .i64 ((common Fi (Fk.take q) : Nat) : Int) ∧ Aside0 (q ≤ Fk.length) ∧ Aside0 (Below wi.heap.size wi we)) (fun _ v36 _ => Fk.length - (intOf v36).toNat)
          case atStart => exact ⟨0, rfl, rfl, ⟨Nat.zero_le _⟩, ⟨Below.refl _ _⟩⟩
          case round =>
            obtain ⟨q, rfl, rfl, hq, HE⟩ := hrel
            obtain ⟨we, rfl⟩ : ∃ we : World, we = wr := ⟨_, rfl⟩
            replace hq := hq.out
            have hcl : common Fi (Fk.take q) ≤ 1000 := by
              have := List.countP_le_length (p := fun p => Fi.contains p) (l := Fk.take q)
              rw [List.length_take] at this
              unfold common
              omega
            by_cases hlt3 : q < Fk.length
            · have hl3 : decide ((q : Int) < (Fk.length : Int)) = true := decide_eq_true (by omega)
              obtain ⟨ad2, ea, hx2⟩ := Kd.at_int (Kd.C_below HC1.out HE.out) (q : Int) (by omega) (by omega)
              cases ea
              rw [Int.toNat_natCast, rd_at hlt3] at hx2
              have hct : common Fi (Fk.take (q + 1)) = common Fi (Fk.take q) + (if Fi.contains Fk[q] = true then 1 else 0) := by
                unfold common
                rw [List.take_succ_eq_append_getElem hlt3, List.countP_append]
                simp [List.countP_cons]
              have hcall := spec_l1Has.calls (Fi.length + 1) A0 c0 Fi Fk[q] _ we (Kd.C_below HCi.out HE.out) HL0.out (l1Has_ev Fi Fk[q] (by have := hri.out; omega))
              generalize Fk[q] = pq at hx2 hct hcall
              have hwc : wrap64 (((common Fi (Fk.take q) : Nat) : Int) + 1) = ((common Fi (Fk.take q) + 1 : Nat) : Int) := by rw [w64s (by omega) (by omega)]; omega
              generalize common Fi (Fk.take q) = cq at hct hwc hcl
              replace hct := Aside0.mk hct
              replace hwc := Aside0.mk hwc
              cases hb : Fi.contains pq with
              | true =>
                rw [hb] at hcall
                have hct1 : Aside0 (common Fi (Fk.take (q + 1)) = cq + 1) := ⟨by rw [hct.out, hb, if_pos rfl]⟩
                replace hcall := Aside0.mk hcall
                clear hct
                replace hb := Aside0.mk hb
                go_wp2_with (go_at_call 69; refine hcall.out.mono ?_; rintro e w' ⟨rfl, ⟨nd, rfl⟩⟩)
                go_roundw
                case rel => exact ⟨q + 1, by go_num, by rw [hct1.out]; go_num, ⟨by omega⟩, ⟨pw_below_drewN HE.out _⟩⟩
                case measure => simp [intOf]; omega
              | false =>
                rw [hb] at hcall
                have hct1 : Aside0 (common Fi (Fk.take (q + 1)) = cq) := ⟨by rw [hct.out, hb]; simp⟩
                replace hcall := Aside0.mk hcall
                clear hct
                replace hb := Aside0.mk hb
                go_wp2_with (go_at_call 69; refine hcall.out.mono ?_; rintro e w' ⟨rfl, ⟨nd, rfl⟩⟩)
                go_roundw
                case rel => exact ⟨q + 1, by go_num, by rw [hct1.out], ⟨by omega⟩, ⟨pw_below_drewN HE.out _⟩⟩
                case measure => simp [intOf]; omega
            · have hl3 : decide ((q : Int) < (Fk.length : Int)) = false := decide_eq_false (by omega)
              obtain rfl : q = Fk.length := by omega
              have hcm : common Fi (Fk.take Fk.length) = common Fi Fk := by rw [List.take_length]
              rw [hcm] at hcl
              rw [hcm]
              have htc : cm F i (i + 1 + j) = decide (common Fi Fk = 2) := by unfold cm; rw [hFi.out, ← hFk.out, hkk.out]
              generalize common Fi Fk = cq at htc hcl
              have HP2 := Aside0.mk (HP.out.below HE.out)
              have HO2 := Aside0.mk (HO.out.below HE.out)
              have HB2 := Aside0.mk (below_then HB.out HB.out.size HE.out)
              by_cases h2 : cq = 2
              · have hb2 : ((cq : Int) == 2) = true := by simp; omega
                have hq1 : Aside0 ((qs ++ [((.slice (some ⟨we.heap.size, 0, none⟩) 2 2 : Value), [(i : Int), kk])]).map Prod.snd = pairsBy (cm F) F.length i ++ pairRow (cm F) i (j + 1)) := ⟨by rw [List.map_append, hqs.out, pairRow_succ, htc, if_pos (decide_eq_true h2), ← hkk.out, List.append_assoc]; rfl⟩
                have hql : qs.length ≤ 2000000 := by
                  have h1 := congrArg List.length hqs.out
                  rw [List.length_map, List.length_append] at h1
                  have h2 := pairsBy_len (cm F) F.length i
                  have h3 := pairRow_len (cm F) i j
                  have h4 : i * F.length ≤ 1000 * 1000 := Nat.mul_le_mul (by omega) (by omega)
                  omega
                replace htc := Aside0.mk htc
                have bP : Below we.heap.size we (we.alloc (.cells #[.int .i64 (i : Int), .int .i64 kk] 3)) := below_alloc (Below.refl _ _) _
                have HO3 := Aside0.mk (HO2.out.below bP)
                have HB3 := Aside0.mk (below_then HB2.out HB2.out.size bP)
                have HP3 : Aside0 (RowsP (we.alloc (.cells #[.int .i64 (i : Int), .int .i64 kk] 3)) w1.heap.size (qs ++ [(.slice (some ⟨we.heap.size, 0, none⟩) 2 2, [(i : Int), kk])])) := ⟨by
                  have h1 := (HP2.out.below bP).cons (u := .slice (some ⟨we.heap.size, 0, none⟩) 2 2) (Kd.R_lower (pair_R we (i : Int) kk) HB2.out.size) (fun p hp k hk he => by
                    have h2 := HP2.out.lt hp he
                    have h3 : we.heap.size = k := by simpa [Value.ownBlock] using hk
                    omega)
                  exact h1.perm (List.perm_append_comm (l₁ := [_]))⟩
                clear bP h2
                go_wp2_with (((with_reducible refine gate_builtin (b := .append) (xs := #[.tmp 48, .tmp 52]) rfl ?_); at_builtin; refine Kd.R_append (Kd.raw 1) (w0 := w1) w1.heap.size rfl (.tmp 48) (.tmp 52) 37 24 (.slice none 0 0) 24 rfl Try.underlying37 info24 rfl (by decide) (by omega) u6 (qs.map fun p : Value × List Int => [p.1]) [.slice (some ⟨we.heap.size, 0, none⟩) 2 2] [.slice (some ⟨we.heap.size, 0, none⟩) 2 2] (fun _ => True) (fun _ => False) rfl (by show Value.slice (some ⟨we.heap.size + 1, 0, none⟩) 1 1 = _; simp) ⟨rfl, rfl, fun u hu => by rw [List.mem_singleton.1 hu]; rfl⟩ (fun _ hk => hk.elim) (fun _ _ => trivial) HO3.out HB3.out HB3.out.size ?aL ?_; (case aL => simp; omega); intro v5 w5 ho_ hb_ hg_ ha_; have HO5 := Aside0.mk ho_; have HB5 := Aside0.mk hb_; have HG5 := Aside0.mk hg_; clear ho_ hb_ hg_ ha_))
                rw [hk1.out]
                go_roundw
                case rel => exact ⟨j + 1, qs ++ [(.slice (some ⟨we.heap.size, 0, none⟩) 2 2, [(i : Int), kk])], rfl, ⟨by have := hkn.out; omega⟩, hq1, ⟨HP3.out.grown HO3.out HG5.out⟩, ⟨by unfold RowsO; rw [List.map_append]; exact HO5.out⟩, HB5⟩
                case measure => rw [← hkk.out]; have := hkn.out; simp [intOf]; omega
              · have hb2 : ((cq : Int) == 2) = false := by simp; omega
                have hq1 : Aside0 (qs.map Prod.snd = pairsBy (cm F) F.length i ++ pairRow (cm F) i (j + 1)) := ⟨by rw [hqs.out, pairRow_succ, htc, decide_eq_false h2]; simp⟩
                replace htc := Aside0.mk htc
                clear h2
                go_wp2_with fail
                rw [hk1.out]
                go_roundw
                case rel => exact ⟨j + 1, qs, rfl, ⟨by have := hkn.out; omega⟩, hq1, HP2, HO2, HB2⟩
                case measure => rw [← hkk.out]; have := hkn.out; simp [intOf]; omega
        · have hl2 : decide (((i + 1 + j : Nat) : Int) < (F.length : Int)) = false := decide_eq_false (by omega)
          have hq1 : Aside0 (qs.map Prod.snd = pairsBy (cm F) F.length (i + 1)) := ⟨by rw [hqs.out, pairsBy_succ, show F.length - (i + 1) = j by omega]⟩
          generalize ((i + 1 + j : Nat) : Int) = kk at hl2
          go_wp2_with fail
          go_roundw
          case rel => exact ⟨i + 1, qs, by go_num, ⟨by omega⟩, hq1, HP, HO, HB⟩
          case measure => simp [intOf]; omega
    · have hl : decide ((i : Int) < (F.length : Int)) = false := decide_eq_false (by omega)
      obtain rfl : i = F.length := by omega
      have hS := RowsO.S HP.out HO.out
      rw [hps.out] at hS
      have hS2 := Aside0.mk (Kd.S_lower hS HB1.out.size)
      have HBf := Aside0.mk (below_step HB1.out HB.out)
      clear hS HP HO hps
      go_wp2_with fail
      go_ret
      exact ⟨_, rfl, hS2.out, HBf.out⟩
end Go.Proofs.Yteeghncofacmhaa.Q
end
section
/- impl.PlaneRegions by hand: its rows lie apart. -/
namespace Go.Proofs.Yteeghncofacmhaa.Q
open Go.RowKit Go.Proofs.YteeghncofacmhaaW.PrintWords Go.Proofs.YteeghncofacmhaaW.PrintLast Go.Proofs.YteeghncofacmhaaW.PrintMore
attribute [local go_sem] max2_int min2_int max_two min_two max_three min_three max_four min_four
set_option linter.unusedVariables false
set_option linter.unusedSimpArgs false
end Go.Proofs.Yteeghncofacmhaa.Q
end
section
namespace Go.Proofs.Yteeghncofacmhaa.Q
open Go.RowKit Go.Proofs.YteeghncofacmhaaW.PrintWords Go.Proofs.YteeghncofacmhaaW.PrintLast Go.Proofs.YteeghncofacmhaaW.PrintMore
attribute [local go_sem] max2_int min2_int max_two min_two max_three min_three max_four min_four   -- for this text's walks alone
set_option linter.unusedVariables false
set_option linter.unusedSimpArgs false
/-! ### spec_RegionSizes: function 11 -/
def spec_RegionSizes.l0 : Nat → List Int → List (List Int) → Int → Int → Option (List Int × Bool)
  | 0, _, _, _, _ => none
  | k + 1, x6, x15, x16, x17 => if x17 < x16 then (if 0 ≤ x17 then (if x17 < (x15.length : Int) then (if x6.length < 17592186044416 then (spec_RegionSizes.l0 k (x6 ++ [((rd_L4 x15 x17).length : Int)]) x15 x16 (wrap64 (x17 + 1))) else (none)) else (none)) else (none)) else (some (x6, true))
def spec_RegionSizes.f (k : Nat) (a0 : Int) (l1 : List (S64)) : Option (List Int × Bool) := (spec_rePlane.f k a0 l1).bind fun t101 => (if t101 = true then ((spec_reList.f a0 l1).bind fun t102 => (spec_RegionSizes.l0 k ([] : List Int) t102 (t102.length : Int) 0)) else (some (([] : List Int), false)))
end Go.Proofs.Yteeghncofacmhaa.Q
end
section
namespace Go.Proofs.Yteeghncofacmhaa.Q
open Go.RowKit Go.Proofs.YteeghncofacmhaaW.PrintWords Go.Proofs.YteeghncofacmhaaW.PrintLast Go.Proofs.YteeghncofacmhaaW.PrintMore
attribute [local go_sem] max2_int min2_int max_two min_two max_three min_three max_four min_four   -- for this text's walks alone
set_option linter.unusedVariables false
set_option linter.unusedSimpArgs false
/-! ### impl_RegionSizes: function 13 -/
def impl_RegionSizes.l0 : Nat → List Int → List (S71) → Int → Int → Option (List Int × Bool)
  | 0, _, _, _, _ => none
  | k + 1, x8, x20, x21, x22 => if x22 < x21 then (if 0 ≤ x22 then (if x22 < (x20.length : Int) then (if x8.length < 17592186044416 then (impl_RegionSizes.l0 k (x8 ++ [(((rd_T71 x20 x22).f0).length : Int)]) x20 x21 (wrap64 (x22 + 1))) else (none)) else (none)) else (none)) else (some (x8, true))
def impl_RegionSizes.f (k : Nat) (a0 : Int) (l1 : List (S64)) : Option (List Int × Bool) := (impl_planeRegions.f a0 l1).bind fun bt101 => (if bt101.2 = true then (impl_RegionSizes.l0 k (([] : List Int)) bt101.1 (bt101.1.length : Int) 0) else (some (([] : List Int), false)))
end Go.Proofs.Yteeghncofacmhaa.Q
end
section
namespace Go.Proofs.Yteeghncofacmhaa.Q
open Go.RowKit Go.Proofs.YteeghncofacmhaaW.PrintWords Go.Proofs.YteeghncofacmhaaW.PrintLast Go.Proofs.YteeghncofacmhaaW.PrintMore
attribute [local go_sem] max2_int min2_int max_two min_two max_three min_three max_four min_four   -- for this text's walks alone
set_option linter.unusedVariables false
set_option linter.unusedSimpArgs false
/-! ### laws_FnExactRegionSizes: function 3 -/
mutual
def laws_FnExactRegionSizes.j0 : Nat → Int → List (S66) → List Int → Bool → List (S64) → List Int → Bool → Bool → Option (Bool)
  | 0, _, _, _, _, _, _, _, _ => none
  | k + 1, x0, x1, x6, x7, x8, x9, x10, x44 => if x44 = true then (some false) else ((laws_toChordS.f k x1).bind fun t117 => ((laws_eqChordS.f k x8 t117).bind fun t120 => (if t120 = true then ((laws_markChordS.f k x8 1).bind fun bt121 => (if bt121.1 < 0 then (laws_FnExactRegionSizes.j1 k x0 x1 x6 x7 x9 true) else ((laws_eqIntS.f k x9 x6).bind fun t123 => (if t123 = true then (laws_FnExactRegionSizes.j1 k x0 x1 x6 x7 x9 (x10 != x7)) else (laws_FnExactRegionSizes.j1 k x0 x1 x6 x7 x9 true))))) else (some false))))
def laws_FnExactRegionSizes.j1 : Nat → Int → List (S66) → List Int → Bool → List Int → Bool → Option (Bool)
  | 0, _, _, _, _, _, _ => none
  | k + 1, x0, x1, x6, x7, x9, x65 => if x65 = true then (some false) else ((laws_markIntS.f k x9 1).bind fun bt124 => ((laws_heldIntS.f k bt124.2 1).bind fun t126 => (if t126 < 0 then (some false) else (if t126 = bt124.1 then ((laws_toChordS.f k x1).bind fun t127 => ((impl_RegionSizes.f k x0 t127).bind fun bt130 => ((laws_eqIntS.f k bt130.1 x6).bind fun t134 => (if t134 = true then (laws_FnExactRegionSizes.j2 k bt124.2 bt124.1 (bt130.2 != x7)) else (laws_FnExactRegionSizes.j2 k bt124.2 bt124.1 true))))) else (some false)))))
def laws_FnExactRegionSizes.j2 : Nat → List Int → Int → Bool → Option (Bool)
  | 0, _, _, _ => none
  | k + 1, x9, x12, x92 => if x92 = true then (some false) else ((laws_heldIntS.f k x9 1).bind fun t135 => (if t135 < 0 then (some false) else (if t135 = x12 then (some true) else (some false))))
end
def laws_FnExactRegionSizes.f (k : Nat) (a0 : Int) (l1 : List (S66)) : Option (Bool) := (laws_szChordS.f l1 1048576).bind fun t101 => (if t101 < 0 then (some true) else ((laws_toChordS.f k l1).bind fun t102 => ((spec_RegionSizes.f k a0 t102).bind fun bt105 => ((laws_toChordS.f k l1).bind fun t109 => ((impl_RegionSizes.f k a0 t109).bind fun bt112 => ((laws_eqIntS.f k bt112.1 bt105.1).bind fun t116 => (if t116 = true then (laws_FnExactRegionSizes.j0 k a0 l1 bt105.1 bt105.2 t109 bt112.1 bt112.2 (bt112.2 != bt105.2)) else (laws_FnExactRegionSizes.j0 k a0 l1 bt105.1 bt105.2 t109 bt112.1 bt112.2 true))))))))
end Go.Proofs.Yteeghncofacmhaa.Q
end
section
/- RegionSizes: both sides tell the same; the law is true. -/
namespace Go.Proofs.Yteeghncofacmhaa.Q
open Go.RowKit Go.Proofs.YteeghncofacmhaaW.PrintWords Go.Proofs.YteeghncofacmhaaW.PrintLast Go.Proofs.YteeghncofacmhaaW.PrintMore
set_option linter.unusedVariables false
set_option linter.unusedSimpArgs false
theorem regs_points {n : Int} {l : List Ch} (h : plane n l = true) : (regs n l).map (fun x => x.f0) = faces n l := by
  have hnc := plane_nc h
  have hn := (good_n (plane_good h)).1
  unfold regs faces
  rw [List.map_mergeSort (s := fun x y => lexLe x y) (fun _ _ _ _ => rfl), List.map_map]
  congr 1
  refine List.map_congr_left fun q hq => ?_
  exact reg_points hnc (by omega) (mem_ids.1 hq)
theorem reList_eq {n : Int} {l : List Ch} (h : plane n l = true) : spec_reList.f n l = some (faces n l) := by
  unfold spec_reList.f
  rw [if_pos ⟨(good_n (plane_good h)).2, good_len (plane_good h)⟩, reRegions_eq (plane_nc h) (good_nodup (plane_good h))]
theorem faces_length (n : Int) (l : List Ch) : (faces n l).length = l.length + 1 := by
  unfold faces ids; simp
theorem regs_length (n : Int) (l : List Ch) : (regs n l).length = l.length + 1 := by
  unfold regs ids; simp
theorem rdReg_at {xs : List S71} {i : Nat} (h : i < xs.length) : rd_T71 xs (i : Int) = xs[i] := by
  simp [rd_T71, List.getD_eq_getElem?_getD, List.getElem?_eq_getElem h]
theorem rdL4_at {xs : List (List Int)} {i : Nat} (h : i < xs.length) : rd_L4 xs (i : Int) = xs[i] := by
  simp [rd_L4, List.getD_eq_getElem?_getD, List.getElem?_eq_getElem h]
end Go.Proofs.Yteeghncofacmhaa.Q
end
section
namespace Go.Proofs.Yteeghncofacmhaa.Q
open Go.RowKit Go.Proofs.YteeghncofacmhaaW.PrintWords Go.Proofs.YteeghncofacmhaaW.PrintLast Go.Proofs.YteeghncofacmhaaW.PrintMore
attribute [local go_sem] max2_int min2_int max_two min_two max_three min_three max_four min_four   -- for this text's walks alone
set_option linter.unusedVariables false
set_option linter.unusedSimpArgs false
/-! ### spec_l1Least: function 84 -/
def spec_l1Least.f (a0 : Int) (a1 : Int) : Option (Int) := if a0 < a1 then (some a0) else (some a1)
end Go.Proofs.Yteeghncofacmhaa.Q
end
section
namespace Go.Proofs.Yteeghncofacmhaa.Q
open Go.RowKit Go.Proofs.YteeghncofacmhaaW.PrintWords Go.Proofs.YteeghncofacmhaaW.PrintLast Go.Proofs.YteeghncofacmhaaW.PrintMore
attribute [local go_sem] max2_int min2_int max_two min_two max_three min_three max_four min_four   -- for this text's walks alone
set_option linter.unusedVariables false
set_option linter.unusedSimpArgs false
/-! ### spec_l1Most: function 85 -/
def spec_l1Most.f (a0 : Int) (a1 : Int) : Option (Int) := if a0 > a1 then (some a0) else (some a1)
end Go.Proofs.Yteeghncofacmhaa.Q
end
section
namespace Go.Proofs.Yteeghncofacmhaa.Q
open Go.RowKit Go.Proofs.YteeghncofacmhaaW.PrintWords Go.Proofs.YteeghncofacmhaaW.PrintLast Go.Proofs.YteeghncofacmhaaW.PrintMore
attribute [local go_sem] max2_int min2_int max_two min_two max_three min_three max_four min_four   -- for this text's walks alone
set_option linter.unusedVariables false
set_option linter.unusedSimpArgs false
/-! ### spec_srChord: function 108 -/
def spec_srChord.f (a0 : Int) (a1 : Int) : Option (Int × Int) := (spec_l1Least.f a0 a1).bind fun t102 => ((spec_l1Most.f a0 a1).bind fun t103 => (some (t102, t103)))
end Go.Proofs.Yteeghncofacmhaa.Q
end
section
namespace Go.Proofs.Yteeghncofacmhaa.Q
open Go.RowKit Go.Proofs.YteeghncofacmhaaW.PrintWords Go.Proofs.YteeghncofacmhaaW.PrintLast Go.Proofs.YteeghncofacmhaaW.PrintMore
attribute [local go_sem] max2_int min2_int max_two min_two max_three min_three max_four min_four   -- for this text's walks alone
set_option linter.unusedVariables false
set_option linter.unusedSimpArgs false
attribute [local go_sem high] eqA64
/-! ### spec_reArc: function 62 -/
mutual
def spec_reArc.l0 : Nat → List (S64) → Int → Int → List (List Int) → Int → Int → Option (Int)
  | 0, _, _, _, _, _, _ => none
  | k + 1, x1, x3, x9, x19, x20, x21 => if x21 < x20 then (if 0 ≤ x21 then (if x21 < (x19.length : Int) then ((spec_l1Has.f k (rd_L4 x19 x21) x3).bind fun t102 => (if t102 = true then ((spec_l1Has.f k (rd_L4 x19 x21) x9).bind fun t103 => (spec_reArc.j1 k x1 x3 x9 x21 (rd_L4 x19 x21) x19 x20 x21 (!t103))) else (spec_reArc.j1 k x1 x3 x9 x21 (rd_L4 x19 x21) x19 x20 x21 true))) else (none)) else (none)) else (some (-1))
def spec_reArc.j1 : Nat → List (S64) → Int → Int → Int → List Int → List (List Int) → Int → Int → Bool → Option (Int)
  | 0, _, _, _, _, _, _, _, _, _ => none
  | k + 1, x1, x3, x9, x10, x11, x19, x20, x21, x35 => if x35 = true then (spec_reArc.l0 k x1 x3 x9 x19 x20 (wrap64 (x21 + 1))) else (spec_reArc.l1 k x1 x3 x9 x10 x11 false x19 x20 x21 x1 (x1.length : Int) 0)
def spec_reArc.l1 : Nat → List (S64) → Int → Int → Int → List Int → Bool → List (List Int) → Int → Int → List (S64) → Int → Int → Option (Int)
  | 0, _, _, _, _, _, _, _, _, _, _, _, _ => none
  | k + 1, x1, x3, x9, x10, x11, x12, x19, x20, x21, x36, x37, x38 => if x38 < x37 then (if 0 ≤ x38 then (if x38 < (x36.length : Int) then (if x12 = true then (spec_reArc.l1 k x1 x3 x9 x10 x11 true x19 x20 x21 x36 x37 (wrap64 (x38 + 1))) else ((spec_srChord.f x3 x9).bind fun bt106 => (spec_reArc.l1 k x1 x3 x9 x10 x11 (((rd_T64 x36 x38).f0) == bt106.1 && (((rd_T64 x36 x38).f1) == bt106.2)) x19 x20 x21 x36 x37 (wrap64 (x38 + 1))))) else (none)) else (none)) else (if x12 = true then (if (x11.length : Int) = 2 then (some x10) else (spec_reArc.l0 k x1 x3 x9 x19 x20 (wrap64 (x21 + 1)))) else (some x10))
end
def spec_reArc.f (k : Nat) (a0 : Int) (l1 : List (S64)) (l2 : List (List Int)) (a3 : Int) : Option (Int) := if a0 = 0 then (none) else (spec_reArc.l0 k l1 a3 (Int.tmod (wrap64 (a3 + 1)) a0) l2 (l2.length : Int) 0)
end Go.Proofs.Yteeghncofacmhaa.Q
end
section
namespace Go.Proofs.Yteeghncofacmhaa.Q
open Go.RowKit Go.Proofs.YteeghncofacmhaaW.PrintWords Go.Proofs.YteeghncofacmhaaW.PrintLast Go.Proofs.YteeghncofacmhaaW.PrintMore
attribute [local go_sem] max2_int min2_int max_two min_two max_three min_three max_four min_four   -- for this text's walks alone
set_option linter.unusedVariables false
set_option linter.unusedSimpArgs false
/-! ### spec_RegionOfArc: function 19 -/
def spec_RegionOfArc.j0 : Nat → Int → List (S64) → Int → Bool → Option (Int × Bool)
  | 0, _, _, _, _ => none
  | k + 1, x0, x1, x2, x18 => if x18 = true then (some (0, false)) else ((spec_reList.f x0 x1).bind fun t103 => ((spec_reArc.f k x0 x1 t103 x2).bind fun t106 => (some (t106, true))))
def spec_RegionOfArc.f (k : Nat) (a0 : Int) (l1 : List (S64)) (a2 : Int) : Option (Int × Bool) := (spec_rePlane.f k a0 l1).bind fun t101 => (if t101 = true then ((spec_l1In.f a2 0 (wrap64 (a0 - 1))).bind fun t102 => (spec_RegionOfArc.j0 k a0 l1 a2 (!t102))) else (spec_RegionOfArc.j0 k a0 l1 a2 true))
end Go.Proofs.Yteeghncofacmhaa.Q
end
section
namespace Go.Proofs.Yteeghncofacmhaa.Q
open Go.RowKit Go.Proofs.YteeghncofacmhaaW.PrintWords Go.Proofs.YteeghncofacmhaaW.PrintLast Go.Proofs.YteeghncofacmhaaW.PrintMore
attribute [local go_sem] max2_int min2_int max_two min_two max_three min_three max_four min_four   -- for this text's walks alone
set_option linter.unusedVariables false
set_option linter.unusedSimpArgs false
/-! ### laws_FnExactRegionOfArc: function 4 -/
def laws_FnExactRegionOfArc.j0 : Nat → List (S66) → List (S64) → Bool → Option (Bool)
  | 0, _, _, _ => none
  | k + 1, x1, x10, x42 => if x42 = true then (some false) else ((laws_toChordS.f k x1).bind fun t112 => ((laws_eqChordS.f k x10 t112).bind fun t115 => (if t115 = true then (some true) else (some false))))
def laws_FnExactRegionOfArc.f (k : Nat) (a0 : Int) (l1 : List (S66)) (a2 : Int) : Option (Bool) := (laws_szChordS.f l1 1048576).bind fun t101 => (if t101 < 0 then (some true) else ((laws_toChordS.f k l1).bind fun t102 => ((spec_RegionOfArc.f k a0 t102 a2).bind fun bt105 => ((laws_toChordS.f k l1).bind fun t107 => ((impl_RegionOfArc.f a0 t107 a2).bind fun bt110 => (if bt110.1 = bt105.1 then (laws_FnExactRegionOfArc.j0 k l1 t107 (bt110.2 != bt105.2)) else (laws_FnExactRegionOfArc.j0 k l1 t107 true)))))))
end Go.Proofs.Yteeghncofacmhaa.Q
end
section
/- RegionOfArc: both sides tell the same region; the law is true. -/
namespace Go.Proofs.Yteeghncofacmhaa.Q
open Go.RowKit Go.Proofs.YteeghncofacmhaaW.PrintWords Go.Proofs.YteeghncofacmhaaW.PrintLast Go.Proofs.YteeghncofacmhaaW.PrintMore
set_option linter.unusedVariables false
set_option linter.unusedSimpArgs false
theorem faces_small {n : Int} {l : List Ch} (h : plane n l = true) : ∀ r ∈ faces n l, r.length ≤ 100 := fun r hr => by
  rw [← regs_points h, List.mem_map] at hr
  obtain ⟨x, hx, rfl⟩ := hr
  exact (regs_small h hx).1
end Go.Proofs.Yteeghncofacmhaa.Q
end
section
/- FnExactPlaneRegions: the law's own walk, given that both sides tell the same rows. -/
namespace Go.Proofs.Yteeghncofacmhaa.Q
open Go.RowKit Go.Proofs.YteeghncofacmhaaW.PrintWords Go.Proofs.YteeghncofacmhaaW.PrintLast Go.Proofs.YteeghncofacmhaaW.PrintMore
attribute [local go_sem] max2_int min2_int max_two min_two max_three min_three max_four min_four
set_option linter.unusedVariables false
set_option linter.unusedSimpArgs false
end Go.Proofs.Yteeghncofacmhaa.Q
end
section
namespace Go.Proofs.Yteeghncofacmhaa.Q
open Go.RowKit Go.Proofs.YteeghncofacmhaaW.PrintWords Go.Proofs.YteeghncofacmhaaW.PrintLast Go.Proofs.YteeghncofacmhaaW.PrintMore
attribute [local go_sem] max2_int min2_int max_two min_two max_three min_three max_four min_four   -- for this text's walks alone
set_option linter.unusedVariables false
set_option linter.unusedSimpArgs false
/-! ### spec_PlaneRegions: function 21 -/
def spec_PlaneRegions.f (k : Nat) (a0 : Int) (l1 : List (S64)) : Option ((List (List Int)) × Bool) := (spec_rePlane.f k a0 l1).bind fun t101 => (if t101 = true then ((spec_reList.f a0 l1).bind fun t102 => (some (t102, true))) else (some (([] : List (List Int)), false)))
end Go.Proofs.Yteeghncofacmhaa.Q
end
section
/- PlaneRegions: both sides tell the same; the law is true. -/
namespace Go.Proofs.Yteeghncofacmhaa.Q
open Go.RowKit Go.Proofs.YteeghncofacmhaaW.PrintWords Go.Proofs.YteeghncofacmhaaW.PrintLast Go.Proofs.YteeghncofacmhaaW.PrintMore
set_option linter.unusedVariables false
set_option linter.unusedSimpArgs false
theorem cnt_le {m : Nat} : ∀ {rs : List (List Int)}, (∀ r ∈ rs, r.length ≤ m) → cnt rs ≤ rs.length * m
  | [], _ => by simp [cnt]
  | r :: rs, h => by
    rw [cnt_cons, List.length_cons, Nat.add_mul, Nat.one_mul]
    have := h r (by simp)
    have := cnt_le (fun x hx => h x (List.mem_cons_of_mem _ hx))
    omega
end Go.Proofs.Yteeghncofacmhaa.Q
end
section
/- FnExactNextRegions: the law's own walk, given that both sides tell the same rows. -/
namespace Go.Proofs.Yteeghncofacmhaa.Q
open Go.RowKit Go.Proofs.YteeghncofacmhaaW.PrintWords Go.Proofs.YteeghncofacmhaaW.PrintLast Go.Proofs.YteeghncofacmhaaW.PrintMore
attribute [local go_sem] max2_int min2_int max_two min_two max_three min_three max_four min_four
set_option linter.unusedVariables false
set_option linter.unusedSimpArgs false
set_option maxHeartbeats 8000000 in
set_option maxRecDepth 100000 in
theorem FnExactNextRegions_walk (rows : Int → List Ch → List (List Int)) (ok : Int → List Ch → Bool) (hcnt : ∀ n l, cnt (rows n l) ≤ 1000000 ∧ (rows n l).length ≤ 1000000)
    (hspec : ∀ (a0 : Int) (A : Option Addr) (c : Nat) (l : List Ch) (W : World), Kd.C k64 W A l.length l → l.length ≤ c → l.length ≤ 1048576 → Calls Try.prog 31 #[.int .i64 a0, .slice A l.length c] W fun e w' => ∃ v0_ : Value, e = .returned (.tuple #[v0_, .bool (ok a0 l)]) ∧ Kd.S (Kd.slice 3 (Kd.int .i64)) 24 w' W.heap.size (fun _ => True) v0_ (rows a0 l) ∧ Below W.heap.size W w')
    (himpl : ∀ (a0 : Int) (A : Option Addr) (c : Nat) (l : List Ch) (W : World), Kd.C k64 W A l.length l → l.length ≤ c → l.length ≤ 1048576 → Calls Try.prog 32 #[.int .i64 a0, .slice A l.length c] W fun e w' => ∃ v0_ : Value, e = .returned (.tuple #[v0_, .bool (ok a0 l)]) ∧ Kd.S (Kd.slice 3 (Kd.int .i64)) 24 w' W.heap.size (fun _ => True) v0_ (rows a0 l) ∧ Below W.heap.size W w')
    (a0 : Int) (A : Option Addr) (c : Nat) (l : List S66) (w : World) (hr : Kd.C k66 w A l.length l) (hc : l.length ≤ c) :
    Calls Try.prog 8 #[.int .i64 a0, .slice A l.length c] w fun e w' => e = .returned (.bool true) ∧ Below w.heap.size w w' := by
  have hlm := hr.2.1
  have hsz := fun W hW => laws_szChordS.calls A c l 1048576 _ W (Kd.C_below hr hW) hc (szChordS_eq l hlm)
  by_cases hbig : 1048576 < l.length
  · rw [if_pos hbig] at hsz
    have h0 := hsz w (Below.refl _ _)
    clear hsz hr hc hlm hbig hcnt hspec himpl
    go_enter Try.func8, Try.ntmps8
    go_wp2_with (go_at_call 10; refine h0.mono ?_; rintro e w' ⟨rfl, ⟨nd, rfl⟩⟩)
    go_ret
    exact ⟨rfl, pw_below_drewN (Below.refl _ _) nd⟩
  · rw [if_neg hbig] at hsz
    have hl2 : l.length ≤ 1048576 := by omega
    have hcl := toCh_length l
    obtain ⟨kt, hkt⟩ := toChordS_ev l hl2
    have hto : ∀ W, Below w.heap.size w W → Calls Try.prog 12 #[.slice A l.length c] W fun e w' => ∃ (A' : Option Addr) (c' : Nat), e = .returned (.slice A' (toCh l).length c') ∧ Kd.R k64 64 w' W.heap.size (fun _ => True) (.slice A' (toCh l).length c') (toCh l) ∧ Below W.heap.size W w' := fun W hW => by
      refine (laws_toChordS.calls kt A c l _ W (Kd.C_below hr hW) hc (hkt kt (Nat.le_refl _))).mono ?_
      rintro e w' ⟨v, rfl, hR, hb⟩
      obtain ⟨A', c', rfl⟩ := Kd.R_slice hR
      exact ⟨A', c', rfl, hR, hb⟩
    have hcn := hcnt a0 (toCh l)
    have hsp := hspec a0
    have him := himpl a0
    clear hspec himpl hcnt hkt kt
    have htl : (toCh l).length ≤ 1048576 := by omega
    generalize htc : toCh l = tl at hto hcn hcl htl
    have hsp1 : ∀ (A : Option Addr) (c : Nat) (W : World), Kd.R k64 64 W w.heap.size (fun _ => True) (.slice A tl.length c) tl → Calls Try.prog 31 #[.int .i64 a0, .slice A tl.length c] W fun e w' => ∃ (A' : Option Addr) (c' : Nat), e = .returned (.tuple #[.slice A' (rows a0 tl).length c', .bool (ok a0 tl)]) ∧ Kd.S (Kd.slice 3 (Kd.int .i64)) 24 w' W.heap.size (fun _ => True) (.slice A' (rows a0 tl).length c') (rows a0 tl) ∧ Below W.heap.size W w' := fun A c W hR => by
      refine (hsp A c tl W (Kd.R_reads' hR).2.2 (Kd.R_reads' hR).2.1 htl).mono ?_
      rintro e w' ⟨v, rfl, hS, hb⟩
      obtain ⟨A', c', rfl⟩ := Kd.S_slice hS
      exact ⟨A', c', rfl, hS, hb⟩
    have him1 : ∀ (A : Option Addr) (c : Nat) (W : World), Kd.R k64 64 W w.heap.size (fun _ => True) (.slice A tl.length c) tl → Calls Try.prog 32 #[.int .i64 a0, .slice A tl.length c] W fun e w' => ∃ (A' : Option Addr) (c' : Nat), e = .returned (.tuple #[.slice A' (rows a0 tl).length c', .bool (ok a0 tl)]) ∧ Kd.S (Kd.slice 3 (Kd.int .i64)) 24 w' W.heap.size (fun _ => True) (.slice A' (rows a0 tl).length c') (rows a0 tl) ∧ Below W.heap.size W w' := fun A c W hR => by
      refine (him A c tl W (Kd.R_reads' hR).2.2 (Kd.R_reads' hR).2.1 htl).mono ?_
      rintro e w' ⟨v, rfl, hS, hb⟩
      obtain ⟨A', c', rfl⟩ := Kd.S_slice hS
      exact ⟨A', c', rfl, hS, hb⟩
    generalize rows a0 tl = rw_ at hsp1 him1 hcn
    generalize ok a0 tl = okb at hsp1 him1
    clear hsp him htc rows ok
    obtain ⟨ke, hke⟩ := eqIntSS_refl rw_ (by omega) (by omega)
    have heq : ∀ (W : World) (b1 b2 : Nat) (A1 : Option Addr) (c1 : Nat) (A2 : Option Addr) (c2 : Nat), Kd.S (Kd.slice 3 (Kd.int .i64)) 24 W b1 (fun _ => True) (.slice A1 rw_.length c1) rw_ → Kd.S (Kd.slice 3 (Kd.int .i64)) 24 W b2 (fun _ => True) (.slice A2 rw_.length c2) rw_ →
        Calls Try.prog 23 #[.slice A1 rw_.length c1, .slice A2 rw_.length c2] W fun e w' => e = .returned (.bool true) ∧ Drawn0 W w' :=
      fun W b1 b2 A1 c1 A2 c2 h1 h2 => laws_eqIntSS.calls ke A1 c1 rw_ A2 c2 rw_ true W (Kd.S_reads' h1).2.2 (Kd.S_reads' h1).2.1 (Kd.S_reads' h2).2.2 (Kd.S_reads' h2).2.1 (hke ke (Nat.le_refl _))
    obtain ⟨kc, hkc⟩ := eqChordS_refl tl (by omega)
    have heqc : ∀ (W : World) (b1 b2 : Nat) (A1 : Option Addr) (c1 : Nat) (A2 : Option Addr) (c2 : Nat), Kd.R k64 64 W b1 (fun _ => True) (.slice A1 tl.length c1) tl → Kd.R k64 64 W b2 (fun _ => True) (.slice A2 tl.length c2) tl →
        Calls Try.prog 15 #[.slice A1 tl.length c1, .slice A2 tl.length c2] W fun e w' => e = .returned (.bool true) ∧ Below W.heap.size W w' :=
      fun W b1 b2 A1 c1 A2 c2 h1 h2 => laws_eqChordS.calls kc A1 c1 tl A2 c2 tl true W (Kd.R_reads' h1).2.2 (Kd.R_reads' h1).2.1 (Kd.R_reads' h2).2.2 (Kd.R_reads' h2).2.1 (hkc kc (Nat.le_refl _))
    obtain ⟨m, l', hm0, km, hkm⟩ := markChordS_ev tl htl
    have hmc : ∀ (w0 W : World) (N : Nat) (v : Value), Below w0.heap.size w0 W → Kd.R k64 64 W w0.heap.size (fun k => k < N) v tl → Calls Try.prog 16 #[v, .int .i64 1] W fun e w' => e = .returned (.int .i64 m) ∧ Below w0.heap.size w0 w' ∧ Kept W w' (fun k => k < N) := fun w0 W N v hb hR =>
      (laws_markChordS.calls km (fun k => k < N) v tl 1 m l' w0 W hb hR (hkm km (Nat.le_refl _))).mono fun e w' ⟨he, _, h2, h3⟩ => ⟨he, h2, h3⟩
    have hms : ∀ (W : World) (B : Nat) (v : Value), B ≤ W.heap.size → Kd.S (Kd.slice 3 (Kd.int .i64)) 24 W B (fun _ => True) v rw_ → Calls Try.prog 24 #[v, .int .i64 1] W fun e w' => e = .returned (.int .i64 (1 + (cnt rw_ : Int))) ∧ Kd.S (Kd.slice 3 (Kd.int .i64)) 24 w' B (fun _ => True) v (marks 1 rw_) ∧ Below B W w' :=
      fun W B v hB hS => laws_markIntSS.calls W B v rw_ 1 hB hS (by omega) (by omega) (by omega)
    obtain ⟨kh, hkh⟩ := heldIntSS_ev rw_ 1 ⟨by omega, by omega⟩ (by omega)
    have hml := marks_length rw_ 1
    have hhe : ∀ (W : World) (B : Nat) (A1 : Option Addr) (c1 : Nat), Kd.S (Kd.slice 3 (Kd.int .i64)) 24 W B (fun _ => True) (.slice A1 rw_.length c1) (marks 1 rw_) → Calls Try.prog 25 #[.slice A1 rw_.length c1, .int .i64 1] W fun e w' => e = .returned (.int .i64 (1 + (cnt rw_ : Int))) ∧ Drawn0 W w' := fun W B A1 c1 hS => by
      have h1 := Kd.S_reads' hS
      have := laws_heldIntSS.calls kh A1 c1 (marks 1 rw_) 1 _ W h1.2.2 (by have := h1.2.1; omega) (hkh kh (Nat.le_refl _))
      rwa [hml] at this
    have hpos : (0 : Int) < 1 + (cnt rw_ : Int) := by omega
    have hn0 : decide (1 + (cnt rw_ : Int) < 0) = false := decide_eq_false (by omega)
    have hm1 : decide (m < 0) = false := decide_eq_false (by omega)
    have hlt0 : decide ((1048576 : Int) - (l.length : Int) < 0) = false := decide_eq_false (by omega)
    replace hto := Aside0.mk hto
    replace hsp1 := Aside0.mk hsp1
    replace him1 := Aside0.mk him1
    replace heq := Aside0.mk heq
    replace heqc := Aside0.mk heqc
    replace hmc := Aside0.mk hmc
    replace hms := Aside0.mk hms
    replace hhe := Aside0.mk hhe
    replace hsz := Aside0.mk hsz
    clear hke ke hkc kc hkm km hkh kh hml hr hc hlm hcl htl hcn hbig hl2 hpos
    generalize (1 : Int) + (cnt rw_ : Int) = z at hms hhe hn0
    generalize marks 1 rw_ = mk_ at hms hhe
    go_enter Try.func8, Try.ntmps8
    go_wp2_with fail
    (with_reducible refine (hsz.out _ (Below.refl _ _)).mono ?_)
    rintro e w' ⟨rfl, ⟨nd, rfl⟩⟩
    go_wp2_with fail
    -- w0 of the reference
    (with_reducible refine (hto.out _ (pw_below_drewN (Below.refl _ _) _)).mono ?_)
    rintro e w1 ⟨A1, c1, rfl, hR1, hb1⟩
    have hb1' : Aside0 (Below w.heap.size w w1) := ⟨below_then (pw_below_drewN (Below.refl _ _) _) (Nat.le_refl _) hb1⟩
    have hR1' : Aside0 (Kd.R k64 64 w1 w.heap.size (fun _ => True) (.slice A1 tl.length c1) tl) := ⟨hR1⟩
    clear hR1 hb1
    go_wp2_with fail
    (with_reducible refine (hsp1.out _ _ _ hR1'.out).mono ?_)
    rintro e w2 ⟨A2, c2, rfl, hS2, hb2⟩
    have HB0 : Aside0 (Below w.heap.size w w2) := ⟨below_step hb1'.out hb2⟩
    have HS2 : Aside0 (Kd.S (Kd.slice 3 (Kd.int .i64)) 24 w2 w1.heap.size (fun _ => True) (.slice A2 rw_.length c2) rw_) := ⟨hS2⟩
    clear hR1' hb1' hS2 hb2 hsp1
    go_wp2_with fail
    -- x1
    (with_reducible refine (hto.out _ HB0.out).mono ?_)
    rintro e w3 ⟨A3, c3, rfl, hR3, hb3⟩
    have HB3 : Aside0 (Below w2.heap.size w2 w3) := ⟨hb3⟩
    have HR3 : Aside0 (Kd.R k64 64 w3 w2.heap.size (fun k => k < w3.heap.size) (.slice A3 tl.length c3) tl) := ⟨Kd.R_mono (Kd.R_bound hR3) (fun k hk => hk.2.2.1)⟩
    clear hR3 hb3
    go_wp2_with fail
    -- g
    (with_reducible refine (him1.out _ _ _ (Kd.R_lower (Kd.R_mono HR3.out (fun _ _ => trivial)) HB0.out.size)).mono ?_)
    rintro e w4 ⟨A4, c4, rfl, hS4, hb4⟩
    have HB4 : Aside0 (Below w3.heap.size w3 w4) := ⟨hb4⟩
    have HS4 : Aside0 (Kd.S (Kd.slice 3 (Kd.int .i64)) 24 w4 w3.heap.size (fun _ => True) (.slice A4 rw_.length c4) rw_) := ⟨hS4⟩
    have HB24 : Aside0 (Below w2.heap.size w2 w4) := ⟨below_step HB3.out HB4.out⟩
    have hle23 : Aside0 (w2.heap.size ≤ w3.heap.size) := ⟨HB3.out.size⟩
    clear hS4 hb4
    go_wp2_with fail
    (with_reducible refine (heq.out _ _ _ _ _ _ _ HS4.out (Kd.S_below HS2.out HB24.out)).mono ?_)
    rintro e w5 ⟨rfl, ⟨nd1, rfl⟩⟩
    go_wp2_with fail
    -- x1 is as_ it was
    (with_reducible refine (hto.out _ (below_step HB0.out (pw_below_drewN HB24.out nd1))).mono ?_)
    rintro e w5 ⟨A5, c5, rfl, hR5, hb5⟩
    have HB45 : Aside0 (Below w4.heap.size w4 w5) := ⟨below_then (pw_below_drewN (Below.refl _ _) nd1) (Nat.le_refl _) hb5⟩
    have HR5 : Aside0 (Kd.R k64 64 w5 w4.heap.size (fun _ => True) (.slice A5 tl.length c5) tl) := ⟨hR5⟩
    clear hR5 hb5
    have HB25 : Aside0 (Below w2.heap.size w2 w5) := ⟨below_step HB24.out HB45.out⟩
    have HB35 : Aside0 (Below w3.heap.size w3 w5) := ⟨below_step HB4.out HB45.out⟩
    go_wp2_with fail
    (with_reducible refine (heqc.out _ _ _ _ _ _ _ (Kd.R_mono (Kd.R_below HR3.out HB35.out) (fun _ _ => trivial)) HR5.out).mono ?_)
    rintro e w6 ⟨rfl, hb6⟩
    have HB46 : Aside0 (Below w4.heap.size w4 w6) := ⟨below_step HB45.out hb6⟩
    have HB26 : Aside0 (Below w2.heap.size w2 w6) := ⟨below_step HB25.out hb6⟩
    have HB36 : Aside0 (Below w3.heap.size w3 w6) := ⟨below_step HB35.out hb6⟩
    clear hb6 HR5 HB45 HB25 HB35
    go_wp2_with fail
    -- x1 is marked
    (with_reducible refine (hmc.out w2 w6 w3.heap.size _ HB26.out (Kd.R_below HR3.out HB36.out)).mono ?_)
    rintro e w7 ⟨rfl, hb7, hk7⟩
    have HB27 : Aside0 (Below w2.heap.size w2 w7) := ⟨hb7⟩
    have HS7 : Aside0 (Kd.S (Kd.slice 3 (Kd.int .i64)) 24 w7 w3.heap.size (fun _ => True) (.slice A4 rw_.length c4) rw_) := ⟨Kd.S_mono (Kd.S_step (Kd.S_bound (Kd.S_below HS4.out HB46.out)) (fun k hk hlt => hk7.2 k hlt (by have := hk.2.1; omega))) (fun _ _ => trivial)⟩
    have hsz37 : Aside0 (w3.heap.size ≤ w7.heap.size) := ⟨Nat.le_trans HB36.out.size hk7.1⟩
    clear hb7 hk7 HS4 HB46 HB26 HB36 HB24 HB3 HB4 HR3
    go_wp2_with fail
    (with_reducible refine (heq.out _ _ _ _ _ _ _ HS7.out (Kd.S_below HS2.out HB27.out)).mono ?_)
    rintro e w8 ⟨rfl, ⟨nd2, rfl⟩⟩
    go_wp2_with fail
    -- g is marked
    (with_reducible refine (hms.out (w7.drewN nd2) w3.heap.size _ (Nat.le_trans hsz37.out (pw_below_drewN (Below.refl w7.heap.size w7) nd2).size) (Kd.S_drewN HS7.out nd2)).mono ?_)
    rintro e w8 ⟨rfl, hS8, hb8⟩
    have HS8 : Aside0 (Kd.S (Kd.slice 3 (Kd.int .i64)) 24 w8 w3.heap.size (fun _ => True) (.slice A4 rw_.length c4) mk_) := ⟨hS8⟩
    have HB28 : Aside0 (Below w2.heap.size w2 w8) := ⟨below_trans (pw_below_drewN HB27.out nd2) ⟨hb8.os, hb8.tape, hb8.output, hb8.size, fun k hk => hb8.block k (Nat.lt_of_lt_of_le hk hle23.out)⟩⟩
    clear hS8 hb8 HS7 HB27 hsz37
    go_wp2_with fail
    (with_reducible refine (hhe.out _ _ _ _ HS8.out).mono ?_)
    rintro e w9 ⟨rfl, ⟨nd3, rfl⟩⟩
    go_wp2_with fail
    -- h
    (with_reducible refine (hto.out _ (below_step HB0.out (pw_below_drewN HB28.out nd3))).mono ?_)
    rintro e w9 ⟨A9, c9, rfl, hR9, hb9⟩
    have HB89 : Aside0 (Below w8.heap.size w8 w9) := ⟨below_then (pw_below_drewN (Below.refl _ _) nd3) (Nat.le_refl _) hb9⟩
    have HR9 : Aside0 (Kd.R k64 64 w9 w.heap.size (fun _ => True) (.slice A9 tl.length c9) tl) := ⟨Kd.R_lower hR9 (below_step HB0.out (pw_below_drewN HB28.out nd3)).size⟩
    clear hR9 hb9
    go_wp2_with fail
    (with_reducible refine (him1.out _ _ _ HR9.out).mono ?_)
    rintro e w10 ⟨A10, c10, rfl, hS10, hb10⟩
    have HS10 : Aside0 (Kd.S (Kd.slice 3 (Kd.int .i64)) 24 w10 w9.heap.size (fun _ => True) (.slice A10 rw_.length c10) rw_) := ⟨hS10⟩
    have HB810 : Aside0 (Below w8.heap.size w8 w10) := ⟨below_step HB89.out hb10⟩
    clear hS10 hb10 HR9 HB89
    have HB210 : Aside0 (Below w2.heap.size w2 w10) := ⟨below_step HB28.out HB810.out⟩
    go_wp2_with fail
    (with_reducible refine (heq.out _ _ _ _ _ _ _ HS10.out (Kd.S_below HS2.out HB210.out)).mono ?_)
    rintro e w11 ⟨rfl, ⟨nd4, rfl⟩⟩
    go_wp2_with fail
    (with_reducible refine (hhe.out _ _ _ _ (Kd.S_below HS8.out (pw_below_drewN HB810.out nd4))).mono ?_)
    rintro e w11 ⟨rfl, ⟨nd5, rfl⟩⟩
    go_wp2_with fail
    go_ret
    exact ⟨rfl, pw_below_drewN (below_step HB0.out HB210.out) _⟩
end Go.Proofs.Yteeghncofacmhaa.Q
end
section
/- NextRegions: both sides tell the same pairs; the law is true. -/
namespace Go.Proofs.Yteeghncofacmhaa.Q
open Go.RowKit Go.Proofs.YteeghncofacmhaaW.PrintWords Go.Proofs.YteeghncofacmhaaW.PrintLast Go.Proofs.YteeghncofacmhaaW.PrintMore
attribute [local go_sem] max2_int min2_int max_two min_two max_three min_three max_four min_four
set_option linter.unusedVariables false
set_option linter.unusedSimpArgs false
theorem common_iff {n : Int} {l : List Ch} (h : NC n l) (hn : 3 ≤ n) {q q' : Option Ch} (hq : ∀ d, q = some d → d ∈ l) (hq' : ∀ d, q' = some d → d ∈ l) (hne : q ≠ q') :
    common (face n l q) (face n l q') = 2 ↔ ∃ a b : Int, a < b ∧ a ∈ face n l q ∧ b ∈ face n l q ∧ a ∈ face n l q' ∧ b ∈ face n l q' := by
  have hm : ∀ x, x ∈ (face n l q').filter (fun p => (face n l q).contains p) ↔ x ∈ face n l q' ∧ x ∈ face n l q := fun x => by
    rw [List.mem_filter, List.contains_iff_mem]
  have hs : ((face n l q').filter (fun p => (face n l q).contains p)).Pairwise (· < ·) := (face_lt n l q').filter _
  have hc : common (face n l q) (face n l q') = ((face n l q').filter (fun p => (face n l q).contains p)).length := by
    unfold common; rw [List.countP_eq_length_filter]
  rw [hc]
  generalize hL : (face n l q').filter (fun p => (face n l q).contains p) = L at hm hs
  constructor
  · intro h2
    match L, h2, hs with
    | [a, b], _, hs =>
      have hab : a < b := by simpa using hs
      have ha := (hm a).1 (by simp)
      have hb := (hm b).1 (by simp)
      exact ⟨a, b, hab, ha.2, hb.2, ha.1, hb.1⟩
  · rintro ⟨a, b, hab, ha, hb, ha', hb'⟩
    have hLa := (hm a).2 ⟨ha', ha⟩
    have hLb := (hm b).2 ⟨hb', hb⟩
    match L, hs, hm, hLa, hLb with
    | [], _, _, hLa, _ => simp at hLa
    | [x], _, _, hLa, hLb => simp at hLa hLb; omega
    | [x, y], _, _, _, _ => rfl
    | x :: y :: z :: t, hs, hm, _, _ =>
      exfalso
      rw [List.pairwise_cons] at hs
      have h1 := hs.1 y (by simp)
      have h2 := (List.pairwise_cons.1 hs.2).1 z (by simp)
      have mx := (hm x).1 (by simp)
      have my := (hm y).1 (by simp)
      have mz := (hm z).1 (by simp)
      simp only [mem_face] at mx my mz
      obtain ⟨c1, _, e1, e2, o1⟩ := shared h hq hq' hne (show x < z by omega) mx.2.2 mz.2.2 mx.1.2 mz.1.2
      obtain ⟨c2, _, e3, e4, o2⟩ := shared h hq hq' hne h1 mx.2.2 my.2.2 mx.1.2 my.1.2
      obtain ⟨c3, _, e5, e6, o3⟩ := shared h hq hq' hne h2 my.2.2 mz.2.2 my.1.2 mz.1.2
      have d12 : c1 ≠ c2 := fun e => by subst e; omega
      have d13 : c1 ≠ c3 := fun e => by subst e; omega
      have d23 : c2 ≠ c3 := fun e => by subst e; omega
      have hinj : ∀ {c d : Ch} {p : Option Ch}, c ≠ d → p = some c → p = some d → False := fun hcd e1 e2 => hcd (Option.some.inj (e1.symm.trans e2))
      rcases o1 with ⟨o1, _⟩ | ⟨o1, _⟩ <;> rcases o2 with ⟨o2, _⟩ | ⟨o2, _⟩ <;> rcases o3 with ⟨o3, _⟩ | ⟨o3, _⟩
      all_goals first
        | exact hinj d12 o1 o2
        | exact hinj d13 o1 o3
        | exact hinj d23 o2 o3
theorem touch_iff {n : Int} {l : List Ch} (h : NC n l) (hn : 3 ≤ n) {q q' : Option Ch} (hq : ∀ d, q = some d → d ∈ l) (hq' : ∀ d, q' = some d → d ∈ l) (hne : q ≠ q') :
    (∃ c, c ∈ (regOf n l q).2.1 ∧ c ∈ (regOf n l q').2.1) ↔ ∃ a b : Int, a < b ∧ a ∈ face n l q ∧ b ∈ face n l q ∧ a ∈ face n l q' ∧ b ∈ face n l q' := by
  have hends : ∀ (p : Option Ch), (∀ d, p = some d → d ∈ l) → ∀ c, c ∈ (regOf n l p).2.1 → c ∈ l ∧ InF l p c.f0 ∧ InF l p c.f1 := fun p hp c hc => by
    rcases (reg_chords h (by omega) hp c).1 hc with e | ⟨h1, _, h2, h3⟩
    · have := lo_in h (by omega) hp
      subst e
      exact ⟨hp c rfl, this.2.2.2.1, this.2.2.2.2⟩
    · exact ⟨h1, h2, h3⟩
  constructor
  · rintro ⟨c, h1, h2⟩
    obtain ⟨hc, a1, b1⟩ := hends q hq c h1
    obtain ⟨_, a2, b2⟩ := hends q' hq' c h2
    have hok := h.ok c hc
    exact ⟨c.f0, c.f1, hok.2.1, mem_face.2 ⟨by omega, a1⟩, mem_face.2 ⟨by omega, b1⟩, mem_face.2 ⟨by omega, a2⟩, mem_face.2 ⟨by omega, b2⟩⟩
  · rintro ⟨a, b, hab, ha, hb, ha', hb'⟩
    rw [mem_face] at ha hb ha' hb'
    obtain ⟨c, hc, e1, e2, o⟩ := shared h hq hq' hne hab ha.2 hb.2 ha'.2 hb'.2
    subst e1 e2
    rcases o with ⟨o, hbl⟩ | ⟨o, hbl⟩
    · exact ⟨c, (reg_chords h (by omega) hq c).2 (.inl o), (reg_chords h (by omega) hq' c).2 (.inr ⟨hc, hbl, ha'.2, hb'.2⟩)⟩
    · exact ⟨c, (reg_chords h (by omega) hq c).2 (.inr ⟨hc, hbl, ha.2, hb.2⟩), (reg_chords h (by omega) hq' c).2 (.inl o)⟩
theorem regs_nodup {n : Int} {l : List Ch} (h : plane n l = true) : (regs n l).Pairwise (fun x y => x.f0 ≠ y.f0) := by
  have hn := good_n (plane_good h)
  have h1 : (ids l).Pairwise (fun q q' => (rg (regOf n l q)).f0 ≠ (rg (regOf n l q')).f0) := by
    refine List.Pairwise.imp_of_mem ?_ (ids_nodup (good_nodup (plane_good h)))
    intro q q' hq hq' hne he
    have e1 : face n l q = face n l q' := by
      rw [← reg_points (plane_nc h) (by omega) (mem_ids.1 hq), ← reg_points (plane_nc h) (by omega) (mem_ids.1 hq')]
      exact he
    exact hne (face_inj (plane_nc h) (by omega) (mem_ids.1 hq) (mem_ids.1 hq') e1)
  have h2 : ((ids l).map fun q => rg (regOf n l q)).Pairwise (fun x y => x.f0 ≠ y.f0) := List.pairwise_map.2 h1
  unfold regs
  exact ((List.mergeSort_perm _ _).pairwise_iff (fun {a b} hab => fun e => hab e.symm)).2 h2
theorem touch_cm {n : Int} {l : List Ch} (h : plane n l = true) {i k : Nat} (hik : i < k) (hk : k < (regs n l).length) : touch (regs n l) i k = cm (faces n l) i k := by
  have hn := (good_n (plane_good h)).1
  have hi : i < (regs n l).length := by omega
  have hfl : (faces n l).length = (regs n l).length := by rw [faces_length, regs_length]
  have hf : ∀ j (hj : j < (regs n l).length), rd_L4 (faces n l) (j : Int) = ((regs n l)[j]).f0 := fun j hj => by
    rw [rdL4_at (by omega)]
    have h1 := regs_points h
    have h2 : ((regs n l).map (fun x => x.f0))[j]? = some ((regs n l)[j]).f0 := by rw [List.getElem?_map, List.getElem?_eq_getElem hj]; rfl
    rw [h1, List.getElem?_eq_getElem (by omega)] at h2
    exact Option.some.inj h2
  obtain ⟨q, hq, eq⟩ := regs_mem (List.getElem_mem hi)
  obtain ⟨q', hq', eq'⟩ := regs_mem (List.getElem_mem hk)
  have hne : q ≠ q' := fun e => by
    subst e
    have := List.pairwise_iff_getElem.1 (regs_nodup h) i k hi hk hik
    rw [eq, eq'] at this
    exact this rfl
  have e1 : ((regs n l)[i]).f0 = face n l q := by rw [eq]; exact reg_points (plane_nc h) (by omega) (mem_ids.1 hq)
  have e2 : ((regs n l)[k]).f0 = face n l q' := by rw [eq']; exact reg_points (plane_nc h) (by omega) (mem_ids.1 hq')
  unfold touch cm
  rw [hf i hi, hf k hk, e1, e2, rdReg_at hi, rdReg_at hk, eq, eq', Bool.eq_iff_iff, decide_eq_true_iff, common_iff (plane_nc h) hn (mem_ids.1 hq) (mem_ids.1 hq') hne, ← touch_iff (plane_nc h) hn (mem_ids.1 hq) (mem_ids.1 hq') hne, List.any_eq_true]
  constructor
  · rintro ⟨c, h1, h2⟩; exact ⟨c, h1, List.contains_iff_mem.1 h2⟩
  · rintro ⟨c, h1, h2⟩; exact ⟨c, h1, List.contains_iff_mem.2 h2⟩
theorem pairRow_congr {t t' : Nat → Nat → Bool} {i n : Nat} (h : ∀ k, i < k → k < n → t i k = t' i k) : ∀ m, i + 1 + m ≤ n → pairRow t i m = pairRow t' i m
  | 0, _ => rfl
  | m + 1, hm => by rw [pairRow_succ, pairRow_succ, pairRow_congr h m (by omega), h (i + 1 + m) (by omega) (by omega)]
theorem pairsBy_congr {t t' : Nat → Nat → Bool} {n : Nat} (h : ∀ i k, i < k → k < n → t i k = t' i k) : ∀ m, m ≤ n → pairsBy t n m = pairsBy t' n m
  | 0, _ => rfl
  | m + 1, hm => by rw [pairsBy_succ, pairsBy_succ, pairsBy_congr h m (by omega), pairRow_congr (h m) (n - (m + 1)) (by omega)]
theorem next_eq {n : Int} {l : List Ch} (h : plane n l = true) : impl_neighbours.f (regs n l) = reNextOf (faces n l) := by
  have hfl : (faces n l).length = (regs n l).length := by rw [faces_length, regs_length]
  unfold impl_neighbours.f reNextOf
  rw [hfl]
  exact pairsBy_congr (fun i k hik hk => touch_cm h hik hk) _ (Nat.le_refl _)
def nextRes (n : Int) (l : List Ch) : List (List Int) × Bool := if plane n l = true then (reNextOf (faces n l), true) else ([], false)
theorem pairRow_mem {t : Nat → Nat → Bool} {i : Nat} : ∀ {m : Nat} {r : List Int}, r ∈ pairRow t i m → r.length = 2
  | 0, r, h => by simp [pairRow] at h
  | m + 1, r, h => by
    rw [pairRow_succ, List.mem_append] at h
    rcases h with h | h
    · exact pairRow_mem h
    · split at h
      · rw [List.mem_singleton.1 h]; rfl
      · simp at h
theorem pairsBy_mem {t : Nat → Nat → Bool} {n : Nat} : ∀ {m : Nat} {r : List Int}, r ∈ pairsBy t n m → r.length = 2
  | 0, r, h => by simp [pairsBy] at h
  | m + 1, r, h => by
    rw [pairsBy_succ, List.mem_append] at h
    rcases h with h | h
    · exact pairsBy_mem h
    · exact pairRow_mem h
theorem nextRes_cnt (n : Int) (l : List Ch) : cnt (nextRes n l).1 ≤ 1000000 ∧ (nextRes n l).1.length ≤ 1000000 := by
  unfold nextRes
  cases h : plane n l with
  | false => rw [if_neg (by simp)]; simp [cnt]
  | true =>
    rw [if_pos rfl]
    show cnt (reNextOf (faces n l)) ≤ 1000000 ∧ (reNextOf (faces n l)).length ≤ 1000000
    have h1 : cnt (reNextOf (faces n l)) ≤ (reNextOf (faces n l)).length * 2 := cnt_le (fun r hr => Nat.le_of_eq (pairsBy_mem hr))
    have h2 : (reNextOf (faces n l)).length ≤ (faces n l).length * (faces n l).length := pairsBy_len _ _ _
    have := good_len (plane_good h)
    rw [faces_length] at h2
    have h3 : (l.length + 1) * (l.length + 1) ≤ 41 * 41 := Nat.mul_le_mul (by omega) (by omega)
    omega
set_option maxHeartbeats 1000000 in
theorem implNext_calls (a0 : Int) (A : Option Addr) (c : Nat) (l : List Ch) (w : World) (hr : Kd.C k64 w A l.length l) (hc : l.length ≤ c) (hl : l.length ≤ 1048576) :
    Calls Try.prog 32 #[.int .i64 a0, .slice A l.length c] w fun e w' => ∃ v0_ : Value, e = .returned (.tuple #[v0_, .bool (nextRes a0 l).2]) ∧ Kd.S (Kd.slice 3 (Kd.int .i64)) 24 w' w.heap.size (fun _ => True) v0_ (nextRes a0 l).1 ∧ Below w.heap.size w w' := by
  unfold nextRes
  cases hp : plane a0 l with
  | false =>
    have h59 := impl_planeRegions.calls a0 A c l [] false _ hr hc (by unfold impl_planeRegions.f; rw [if_pos (by omega), hp]; rfl)
    replace h59 := Aside0.mk h59
    clear hr hc hl hp
    go_enter Try.func32, Try.ntmps32
    go_wp2_with (go_at_call 59; refine h59.out.mono ?_; rintro e w' ⟨v0, rfl, _, hb⟩)
    go_ret2
    exact ⟨_, rfl, Kd.S_nil _ _ _ _ _, hb⟩
  | true =>
    have h59 := impl_planeRegions.calls a0 A c l (regs a0 l) true _ hr hc (by unfold impl_planeRegions.f; rw [if_pos (by omega), hp]; rfl)
    have hrl := regs_length a0 l
    have hl40 := good_len (plane_good hp)
    have hsm := fun x hx => (regs_small (x := x) hp hx).2.1
    rw [if_pos rfl, ← next_eq hp]
    generalize regs a0 l = rs at h59 hrl hsm ⊢
    have hnb : ∀ (A : Option Addr) (c : Nat) (W : World), Kd.C k71 W A rs.length rs → rs.length ≤ c → _ := fun A c W hC hc => neighbours_calls A c rs W hC hc (by omega) (fun x hx => by have := hsm x hx; omega)
    replace h59 := Aside0.mk h59
    replace hnb := Aside0.mk hnb
    clear hr hc hl hp hsm hrl
    go_enter Try.func32, Try.ntmps32
    go_wp2_with fail
    (with_reducible refine h59.out.mono ?_)
    rintro e w1 ⟨v0, rfl, hS, hb⟩
    obtain ⟨A1, c1, rfl, hc1, hC1⟩ := Kd.S_reads hS
    have hcl := Aside0.mk (hnb.out A1 c1 w1 hC1 hc1)
    replace hb := Aside0.mk hb
    clear hS hC1 hc1
    go_wp2_with fail
    (with_reducible refine hcl.out.mono ?_)
    rintro e w2 ⟨v1, rfl, hS2, hb2⟩
    replace hS2 := Aside0.mk hS2
    replace hb2 := Aside0.mk hb2
    go_wp2_with fail
    go_ret2
    exact ⟨_, rfl, Kd.S_lower hS2.out hb.out.size, below_step hb.out hb2.out⟩
set_option maxHeartbeats 1000000 in
theorem specNext_calls (a0 : Int) (A : Option Addr) (c : Nat) (l : List Ch) (w : World) (hr : Kd.C k64 w A l.length l) (hc : l.length ≤ c) (hl : l.length ≤ 1048576) :
    Calls Try.prog 31 #[.int .i64 a0, .slice A l.length c] w fun e w' => ∃ v0_ : Value, e = .returned (.tuple #[v0_, .bool (nextRes a0 l).2]) ∧ Kd.S (Kd.slice 3 (Kd.int .i64)) 24 w' w.heap.size (fun _ => True) v0_ (nextRes a0 l).1 ∧ Below w.heap.size w w' := by
  unfold nextRes
  obtain ⟨k, hk⟩ := rePlane_ev a0 l (by omega)
  have hpl := spec_rePlane.calls k a0 A c l _ w hr hc (hk k (Nat.le_refl _))
  cases hp : plane a0 l with
  | false =>
    rw [hp] at hpl
    replace hpl := Aside0.mk hpl
    clear hr hc hl hp hk
    go_enter Try.func31, Try.ntmps31
    go_wp2_with (go_at_call 56; refine hpl.out.mono ?_; rintro e w' ⟨rfl, hb⟩)
    go_ret2
    exact ⟨_, rfl, Kd.S_nil _ _ _ _ _, hb⟩
  | true =>
    rw [hp] at hpl
    have hl40 := good_len (plane_good hp)
    have hfl := faces_length a0 l
    have hsm := faces_small hp
    have hnx : ∀ W, Below w.heap.size w W → _ := fun W hW => reNext_calls a0 A c l (faces a0 l) W (Kd.C_below hr hW) hc (reList_eq hp) (by omega) (fun x hx => by have := hsm x hx; omega)
    rw [if_pos rfl]
    replace hpl := Aside0.mk hpl
    replace hnx := Aside0.mk hnx
    clear hr hc hl hp hk hfl hsm
    go_enter Try.func31, Try.ntmps31
    go_wp2_with fail
    (with_reducible refine hpl.out.mono ?_)
    rintro e w1 ⟨rfl, hb⟩
    replace hb := Aside0.mk hb
    go_wp2_with fail
    (with_reducible refine (hnx.out w1 hb.out).mono ?_)
    rintro e w2 ⟨v1, rfl, hS2, hb2⟩
    replace hS2 := Aside0.mk hS2
    replace hb2 := Aside0.mk hb2
    go_wp2_with fail
    go_ret2
    exact ⟨_, rfl, Kd.S_lower hS2.out hb.out.size, below_step hb.out hb2.out⟩
theorem FnExactNextRegions_true (a0 : Int) (A : Option Addr) (c : Nat) (l : List S66) (w : World) (hr : Kd.C k66 w A l.length l) (hc : l.length ≤ c) (hw : ∀ c ∈ l, (Lit.int .i64 c.f0).wf = true ∧ (Lit.int .i64 c.f1).wf = true) :
    Calls Try.prog 8 #[.int .i64 a0, .slice A l.length c] w fun e w' => e = .returned (.bool true) ∧ Below w.heap.size w w' :=
  FnExactNextRegions_walk (fun n l => (nextRes n l).1) (fun n l => (nextRes n l).2) nextRes_cnt (fun a0 A c l W hC hc hl => specNext_calls a0 A c l W hC hc hl) (fun a0 A c l W hC hc hl => implNext_calls a0 A c l W hC hc hl) a0 A c l w hr hc
end Go.Proofs.Yteeghncofacmhaa.Q
end
section
/- The row of FnExactNextRegions, lifted from its walk; no condition. -/
namespace Go.Proofs.Yteeghncofacmhaa.fnExactNextRegions
open Go.ChangeShapes Go.WideShapes Go.ChangeAt Go.RowKit
set_option linter.unusedVariables false
theorem own : ownKnob Try.prog.godebug = none := by kernel_rfl
theorem laidOut : laidOutB Try.prog = true := by kernel_rfl
set_option maxRecDepth 100000 in
theorem lifted (os : Os) (started : os.Started) (H : Type) (enc : TypeId × Value → H) :
    ReturnsInHanded {} Try.checked os 8 .any (Rows.fnExactNextRegionsSpec.pre6 enc Try.prog Try.f8 Rows.fnExactNextRegionsRow.domain false) (Rows.fnExactNextRegionsSpec.post enc Try.prog Try.f8 false true false false) := by
  refine returnsInHanded_of_change_sized (C := Try.checked) own started (by kernel_rfl) Try.func8
    (ChangeSpec.witness6 (enc := enc) (C := Try.checked) false ⟨#[], #[.int .i64 0, .slice none 0 0], []⟩ 8 (by kernel_rfl) (by kernel_rfl) (by kernel_rfl) (by kernel_rfl)) ?_
  intro W base args ds gs before hval0 hW hcnd hsz0 _
  have hval : ∀ (j : Nat) t v, Try.f8.params[j]? = some t → args[j]? = some v → Value.okWide Try.prog W .any base t v := hval0
  have hW' := hW
  obtain ⟨p, q, hA0, hV, rfl, hfz, hnd⟩ := hW
  have hA : DataW.TrodAll enc Try.prog W 0 (fun _ => true) true Try.f8.params.toList args.toList ds p := hA0
  rw [Try.params8] at hA hval
  obtain ⟨v0, vs0, d0, ds0, p0, q0, hargs, rfl, rfl, h0, r0⟩ := trodAll_cons hA
  obtain ⟨v1, vs1, d1, ds1, p1, q1, rfl, rfl, rfl, h1, r1⟩ := trodAll_cons r0
  obtain ⟨rfl, rfl, rfl⟩ := trodAll_nil r1
  obtain rfl : args = #[v0, v1] := by cases args; simp_all
  obtain ⟨rfl, rfl⟩ := trodVars_none hV
  obtain ⟨i0, rfl⟩ := okWide_int Try.underlying3 (hval 0 3 v0 rfl rfl)
  obtain ⟨a1, len1, cap1, rfl⟩ := okWide_slice Try.underlying22 (hval 1 22 v1 rfl rfl)
  have k0 := h0
  have lt0 : ∀ x ∈ p0, x.block < W.heap.size := by obtain ⟨m, hm⟩ := k0; exact DataW.trod_lt m _ _ _ hm
  have k1 := h1
  have lt1 : ∀ x ∈ p1, x.block < W.heap.size := by obtain ⟨m, hm⟩ := k1; exact DataW.trod_lt m _ _ _ hm
  obtain ⟨l, rfl, hcap, hC, hwf⟩ := Q.chords_of_trod h1
  clear hA0 hval0 hsz0
  refine (Q.FnExactNextRegions_true i0 a1 cap1 l W hC hcap hwf).mono fun e W' ⟨he, bel⟩ => ?_
  subst he
  exact ⟨_, rfl, _, _, _, [], _, [], hW', trodAll_mk1 (shut_bool Try.underlying4 _), (trodAll_cons_mk (Below.trod laidOut (by kernel_rfl) (of_decide_eq_true (by kernel_rfl)) k0 bel lt0) (trodAll_cons_mk (Below.trod laidOut (by kernel_rfl) (of_decide_eq_true (by kernel_rfl)) k1 bel lt1) trodAll_mk0)), rfl, bel.frame _, fun h => by cases h⟩
theorem over : Rows.fnExactNextRegionsRow.holds Try.pinned (OpenSpec.ofChange Rows.fnExactNextRegionsSpec) :=
  OpenClaim.holds_of_wide 8 Try.f8 rfl rfl rfl rfl rfl rfl rfl ⟨rfl, rfl, rfl, rfl, rfl⟩ rfl rfl rfl rfl rfl (by kernel_rfl) Try.func8 (by kernel_rfl)
    (of_decide_eq_true (by kernel_rfl)) (by unfold Func.isWrapper; first | (rw [if_pos (by decide +kernel)]; kernel_rfl) | (rw [if_neg (by decide +kernel)]; exact ⟨rfl, rfl⟩))
    (fun os started H enc _ => lifted os started H enc)
theorem proved : Rows.FnExactNextRegionsSaid := over
end Go.Proofs.Yteeghncofacmhaa.fnExactNextRegions
namespace Go.Proofs.Yteeghncofacmhaa
/-- The row, under a short name, for the claim. -/
theorem fnExactNextRegions_holds : Rows.FnExactNextRegionsSaid := fnExactNextRegions.proved
end Go.Proofs.Yteeghncofacmhaa
end
#print axioms Go.Proofs.Yteeghncofacmhaa.fnExactNextRegions_holds
