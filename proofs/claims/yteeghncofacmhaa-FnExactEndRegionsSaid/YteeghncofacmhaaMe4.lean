/- The proof of FnExactEndRegions, part 5 of 6; no condition: the statement as it is given. Merged by pack.py out of this session's texts. -/
import Derived.Shelf.SlSortCmp.NoneTotal
import Derived.Test.YteeghncofacmhaaMe0
import Derived.Test.YteeghncofacmhaaMe3
import Derived.Test.YteeghncofacmhaaMe1
section
/- spec.reList by hand: what it computes, and that the machine computes it. -/
namespace Go.Proofs.Yteeghncofacmhaa.Q
open Go.RowKit Go.Proofs.YteeghncofacmhaaW.PrintWords Go.Proofs.YteeghncofacmhaaW.PrintLast Go.Proofs.YteeghncofacmhaaW.PrintMore
attribute [local go_sem] max2_int min2_int max_two min_two max_three min_three max_four min_four
def reIn (a b : Int) (r : List Int) : List Int := r.filter fun p => decide (a ≤ p ∧ p ≤ b)
def reOut (a b : Int) (r : List Int) : List Int := r.filter fun p => decide (p ≤ a ∨ b ≤ p)
def reHit (a b : Int) (r : List Int) : Bool := r.contains a && r.contains b
/-- A chord parts the first region that has both its points. -/
def reStep (rs : List (List Int)) (c : S64) : List (List Int) :=
  match rs.findIdx? (reHit c.f0 c.f1) with
  | none => rs
  | some i => rs.take i ++ [reIn c.f0 c.f1 (rs.getD i []), reOut c.f0 c.f1 (rs.getD i [])] ++ rs.drop (i + 1)
/-- The place of a region among those in order: behind all that are not greater, from the end. -/
def rePos (r : List Int) (out : List (List Int)) : Nat := out.length - (out.reverse.takeWhile (fun q => lexLt r q)).length
def rePut (out : List (List Int)) (r : List Int) : List (List Int) := out.take (rePos r out) ++ [r] ++ out.drop (rePos r out)
def reRegions (n : Nat) (l : List S64) : List (List Int) := (l.foldl reStep [(List.range n).map Int.ofNat]).foldl rePut []
def spec_reList.f (a0 : Int) (l1 : List S64) : Option (List (List Int)) := if a0 ≤ 60 ∧ l1.length ≤ 40 then some (reRegions a0.toNat l1) else none
theorem reStep_len {m : Nat} {rs : List (List Int)} (h : ∀ r ∈ rs, r.length ≤ m) (c : S64) : ∀ r ∈ reStep rs c, r.length ≤ m := by
  unfold reStep
  cases hf : rs.findIdx? (reHit c.f0 c.f1) with
  | none => exact h
  | some i =>
    have hi : i < rs.length := (List.findIdx?_eq_some_iff_findIdx_eq.1 hf).1
    intro r hr
    have hg : (rs.getD i []).length ≤ m := by
      rw [List.getD_eq_getElem?_getD, List.getElem?_eq_getElem hi]
      exact h _ (List.getElem_mem hi)
    simp only [List.mem_append, List.mem_cons, List.not_mem_nil, or_false] at hr
    rcases hr with (hr | rfl | rfl) | hr
    · exact h r (List.mem_of_mem_take hr)
    · exact Nat.le_trans (List.length_filter_le _ _) hg
    · exact Nat.le_trans (List.length_filter_le _ _) hg
    · exact h r (List.mem_of_mem_drop hr)
theorem reSteps_len {m : Nat} (l : List S64) : ∀ {rs : List (List Int)}, (∀ r ∈ rs, r.length ≤ m) → ∀ r ∈ l.foldl reStep rs, r.length ≤ m := by
  induction l with
  | nil => exact fun h => h
  | cons c l ih => exact fun h => ih (reStep_len h c)
theorem reStep_at {ps : List (Value × List Int)} {i : Nat} (hi : i < ps.length) (c : S64) (hno : ∀ q ∈ ps.take i, reHit c.f0 c.f1 q.2 = false) (hh : reHit c.f0 c.f1 ps[i].2 = true) (u1 u2 : Value) :
    reStep (ps.map Prod.snd) c = (ps.take i ++ [(u1, reIn c.f0 c.f1 ps[i].2), (u2, reOut c.f0 c.f1 ps[i].2)] ++ ps.drop (i + 1)).map Prod.snd := by
  have hf : (ps.map Prod.snd).findIdx? (reHit c.f0 c.f1) = some i := by
    rw [List.findIdx?_eq_some_iff_getElem]
    refine ⟨by simpa using hi, by simpa using hh, fun j hj => ?_⟩
    have hm : ps[j] ∈ ps.take i := List.mem_iff_getElem.2 ⟨j, by simp; omega, by simp⟩
    simpa using hno _ hm
  unfold reStep
  rw [hf]
  simp [List.map_take, List.map_drop, List.getD_eq_getElem?_getD, List.getElem?_map, List.getElem?_eq_getElem hi]
theorem reStep_no {ps : List (Value × List Int)} (c : S64) (hno : ∀ q ∈ ps, reHit c.f0 c.f1 q.2 = false) : reStep (ps.map Prod.snd) c = ps.map Prod.snd := by
  have hf : (ps.map Prod.snd).findIdx? (reHit c.f0 c.f1) = none := by
    rw [List.findIdx?_eq_none_iff]
    intro x hx
    obtain ⟨q, hq, rfl⟩ := List.mem_map.1 hx
    exact hno q hq
  unfold reStep
  rw [hf]
theorem rePos_eq {r : List Int} {qs : List (List Int)} {t : Nat} (ht : t ≤ qs.length) (hall : ∀ x ∈ qs.drop t, lexLt r x = true) (hlast : ∀ s, t = s + 1 → lexLt r (qs.getD s []) = false) : rePos r qs = t := by
  have h1 : qs.reverse = (qs.drop t).reverse ++ (qs.take t).reverse := by rw [← List.reverse_append, List.take_append_drop]
  have h2 : ((qs.take t).reverse.takeWhile (fun q => lexLt r q)) = [] := by
    rcases Nat.eq_zero_or_pos t with h0 | h0
    · subst h0; rfl
    · obtain ⟨s, rfl⟩ : ∃ s, t = s + 1 := ⟨t - 1, by omega⟩
      have hs : s < qs.length := by omega
      rw [List.take_succ_eq_append_getElem hs, List.reverse_append]
      have := hlast s rfl
      rw [List.getD_eq_getElem?_getD, List.getElem?_eq_getElem hs] at this
      simp only [List.reverse_cons, List.reverse_nil, List.nil_append, List.cons_append]
      rw [List.takeWhile_cons_of_neg]
      simpa using this
  unfold rePos
  rw [h1, List.takeWhile_append_of_pos (fun x hx => hall x (List.mem_reverse.1 hx)), h2, List.append_nil, List.length_reverse, List.length_drop]
  omega
theorem rePut_at {ps : List (Value × List Int)} {r : List Int} {t : Nat} (ht : t ≤ ps.length) (hall : ∀ x ∈ ps.drop t, lexLt r x.2 = true) (hlast : ∀ s (hs : s < ps.length), t = s + 1 → lexLt r ps[s].2 = false) (u : Value) :
    rePut (ps.map Prod.snd) r = (ps.take t ++ [(u, r)] ++ ps.drop t).map Prod.snd := by
  unfold rePut
  rw [rePos_eq (t := t) (by simpa using ht) (fun x hx => by
    rw [← List.map_drop] at hx
    obtain ⟨q, hq, rfl⟩ := List.mem_map.1 hx
    exact hall q hq) (fun s hs => by
    have hsl : s < ps.length := by omega
    rw [List.getD_eq_getElem?_getD, List.getElem?_map, List.getElem?_eq_getElem hsl]
    exact hlast s hsl hs)]
  simp [List.map_take, List.map_drop]
theorem take_foldl {α : Type} {f : α → S64 → α} {l : List S64} {j : Nat} (hj : j < l.length) {c : S64} (hc : rd_T64 l (j : Int) = c) {x : α} : f ((l.take j).foldl f x) c = (l.take (j + 1)).foldl f x := by
  have h1 : l[j] = c := by
    rw [← hc]; simp [rd_T64, List.getD_eq_getElem?_getD, List.getElem?_eq_getElem hj]
  rw [List.take_succ_eq_append_getElem hj, List.foldl_append, h1]; rfl
set_option linter.unusedVariables false
set_option maxHeartbeats 8000000 in
set_option maxRecDepth 100000 in
theorem spec_reList.calls (a0 : Int) (A1 : Option Addr) (c1 : Nat) (l1 : List S64) (r : List (List Int)) (w : World) (hr1 : Kd.C k64 w A1 l1.length l1) (hc1 : l1.length ≤ c1) (h : spec_reList.f a0 l1 = some r) :
    Calls Try.prog 57 #[.int .i64 a0, .slice A1 l1.length c1] w fun e w' => ∃ v0_ : Value, e = .returned (v0_) ∧ Kd.S (Kd.slice 3 (Kd.int .i64)) 24 w' w.heap.size (fun _ => True) v0_ r ∧ Below w.heap.size w w' := by
  have hu64 := Try.underlying64
  have HR1 := Aside0.mk hr1
  have HC1 := Aside0.mk hc1
  clear hr1 hc1
  unfold spec_reList.f at h
  have hb : a0 ≤ 60 ∧ l1.length ≤ 40 := by
    by_cases hb : a0 ≤ 60 ∧ l1.length ≤ 40
    · exact hb
    · rw [if_neg hb] at h; cases h
  rw [if_pos hb] at h
  have H := Aside0.mk (Option.some.inj h)
  clear h
  obtain ⟨hb0, hb1⟩ := hb
  have HB1 := Aside0.mk hb1
  clear hb1
  go_enter Try.func57, Try.ntmps57
  go_wp2
  go_loopw [5, 6] (fun v5 v6 wr => ∃ k : Nat, v6 = .int .i64 (k : Int) ∧ Aside0 (k ≤ a0.toNat) ∧ Aside0 ((Kd.int .i64).R 3 wr w.heap.size (fun _ => True) v5 ((List.range k).map Int.ofNat)) ∧ Aside0 (Below w.heap.size w wr)) (fun _ v6 _ => a0.toNat - (intOf v6).toNat)
  case atStart => exact ⟨0, rfl, ⟨Nat.zero_le _⟩, ⟨Kd.R_nil _ _ _ _ _⟩, ⟨Below.refl _ _⟩⟩
  case round =>
    obtain ⟨k, rfl, hk, HO, HB⟩ := hrel
    replace hk := hk.out
    by_cases hlt : (k : Int) < a0
    · have hl : decide ((k : Int) < a0) = true := decide_eq_true hlt
      go_wp2_with (((with_reducible refine gate_builtin (b := .append) (xs := #[.tmp 27, .tmp 29]) rfl ?_); at_builtin; refine Kd.R_append (Kd.int .i64) (w0 := w) w.heap.size rfl (.tmp 27) (.tmp 29) 24 3 (.int .i64 0) 8 rfl Try.underlying24 info3 rfl (by decide) (by omega) _ ((List.range k).map Int.ofNat) (k : Int) [.int .i64 (k : Int)] (fun _ => True) (fun _ => False) rfl rfl rfl (fun _ hk => hk.elim) (fun _ _ => trivial) HO.out HB.out HB.out.size ?aL ?_; (case aL => simp; omega); intro v1 w1 ho1 hb1 hg1 ha1; have HO1 := Aside0.mk ho1; have HB1 := Aside0.mk hb1; clear ho1 hb1 hg1 ha1))
      go_roundw
      case rel => exact ⟨k + 1, by go_num, ⟨by omega⟩, ⟨by rw [List.range_succ, List.map_append]; exact HO1.out⟩, HB1⟩
      case measure => simp [intOf]; omega
    · have hl : decide ((k : Int) < a0) = false := decide_eq_false hlt
      have hk2 := Aside0.mk (show k = a0.toNat by omega)
      clear hlt hk
      have hrg : ∃ rg : List Int, rg = (List.range k).map Int.ofNat := ⟨_, rfl⟩
      obtain ⟨rg, hrg⟩ := hrg
      rw [← hrg] at HO
      replace hrg := Aside0.mk hrg
      obtain ⟨A5, c5, e5⟩ := Kd.R_slice HO.out
      subst e5
      go_wp2_with fail
      have P0 : RowsP wr w.heap.size [(.slice A5 rg.length c5, rg)] := RowsP.one HO.out
      have O1 := Aside0.mk (RowsO.one (W := wr) (B := w.heap.size) (.slice A5 rg.length c5) rg rfl HB.out.size)
      have P1 := Aside0.mk (P0.below (below_alloc (Below.refl _ _) (.cells #[.slice A5 rg.length c5] 24)))
      have B1 := Aside0.mk (HB.out.alloc HB.out.size (.cells #[.slice A5 rg.length c5] 24))
      clear P0
      clear HO HB
      go_loopw [7, 35] (fun v7 v35 wr => ∃ (j : Nat) (ps : List (Value × List Int)), v35 = .int .i64 (j : Int) ∧ Aside0 (j ≤ l1.length) ∧ Aside0 (ps.map Prod.snd = (l1.take j).foldl reStep [rg]) ∧ Aside0 (ps.length ≤ j + 1) ∧ Aside0 (RowsP wr w.heap.size ps) ∧ Aside0 (RowsO wr w.heap.size v7 ps) ∧ Aside0 (Below w.heap.size w wr)) (fun _ v35 _ => l1.length - (intOf v35).toNat)
      case atStart => exact ⟨0, _, rfl, ⟨Nat.zero_le _⟩, ⟨rfl⟩, ⟨Nat.le_refl _⟩, P1, O1, B1⟩
      case round =>
        clear P1 O1 B1 hl
        obtain ⟨j, ps, rfl, hj, hps, hpl, HP, HO, HB⟩ := hrel
        replace hj := hj.out
        have hb2 := HB1.out
        obtain ⟨A7, c7, e7, hc7, HC⟩ := HO.out.slice
        subst e7
        replace hc7 := Aside0.mk hc7
        replace HC := Aside0.mk HC
        by_cases hlt : j < l1.length
        · have hl : decide ((j : Int) < (l1.length : Int)) = true := decide_eq_true (by omega)
          obtain ⟨ad, ea, hx0, hx1⟩ := at_T64 HR1.out (j : Int) (by omega) (by omega)
          cases ea
          replace hx0 := (HB.out.cell (World.block_lt_of_cell? w _ hx0)).trans hx0
          replace hx1 := (HB.out.cell (World.block_lt_of_cell? w _ hx1)).trans hx1
          rw [Int.toNat_natCast] at hx0 hx1
          generalize hc : rd_T64 l1 (j : Int) = ch at hx0 hx1
          replace hc := Aside0.mk hc
          go_wp2_with fail
          have hgB : w.heap.size ≤ wr.heap.size := HB.out.size
          have k0 : (wr.alloc (.cells #[.int .i64 ch.f0, .int .i64 ch.f1] 64)).cell? ⟨wr.heap.size, 0, none⟩ = some (.int .i64 ch.f0) := new_cell _ _ _ 0
          have k1 : (wr.alloc (.cells #[.int .i64 ch.f0, .int .i64 ch.f1] 64)).cell? ⟨wr.heap.size, 1, none⟩ = some (.int .i64 ch.f1) := new_cell _ _ _ 1
          have kz : wr.heap.size < (wr.alloc (.cells #[.int .i64 ch.f0, .int .i64 ch.f1] 64)).heap.size := by simp
          have kb : Below wr.heap.size wr (wr.alloc (.cells #[.int .i64 ch.f0, .int .i64 ch.f1] 64)) := (Below.refl _ _).alloc (Nat.le_refl _) _
          generalize wr.alloc (.cells #[.int .i64 ch.f0, .int .i64 ch.f1] 64) = wc at k0 k1 kz kb ⊢
          have HPc := Aside0.mk (HP.out.below kb)
          have HOc := Aside0.mk (HO.out.below kb)
          have HCc := Aside0.mk (Kd.C_below HC.out kb)
          have HBc := Aside0.mk (below_then HB.out hgB kb)
          have K0 := Aside0.mk k0
          have K1 := Aside0.mk k1
          have KB := Aside0.mk kb
          clear k0 k1 kb hx0 hx1 HP HO HC HB
          generalize wr.heap.size = g at hgB kz K0 K1 KB ⊢
          go_loopw [7, 41] (fun v7 v41 wi => ∃ i : Nat, v7 = .slice A7 ps.length c7 ∧ v41 = .int .i64 (i : Int) ∧ Aside0 (i ≤ ps.length) ∧ Aside0 (∀ q ∈ ps.take i, reHit ch.f0 ch.f1 q.2 = false) ∧ Aside0 (Below wc.heap.size wc wi)) (fun _ v41 _ => ps.length - (intOf v41).toNat)
          case atStart => exact ⟨0, rfl, rfl, ⟨Nat.zero_le _⟩, ⟨fun q hq => by simp at hq⟩, ⟨Below.refl _ _⟩⟩
          case round =>
            obtain ⟨i, rfl, rfl, hi, hno, HW⟩ := hrel
            replace hi := hi.out
            have hpl3 := hpl.out
            by_cases hlt3 : i < ps.length
            · have hl3 : decide ((i : Int) < (ps.length : Int)) = true := decide_eq_true (by omega)
              obtain ⟨ad7, A0, c0, ea7, hcell, hv0, hl0, hC0⟩ := RowsO.get (HPc.out.below HW.out) (Kd.C_below HCc.out HW.out) i hlt3 rfl
              cases ea7
              have k0 := (HW.out.cell (World.block_lt_of_cell? wc _ K0.out)).trans K0.out
              have k1 := (HW.out.cell (World.block_lt_of_cell? wc _ K1.out)).trans K1.out
              have ht : ps.take (i + 1) = ps.take i ++ [ps[i]] := List.take_succ_eq_append_getElem hlt3
              replace ht := Aside0.mk ht
              generalize hp : ps[i] = pi at hcell hv0 hl0 hC0 ht
              replace hp := Aside0.mk hp
              have hp60 : pi.2.length ≤ 60 := by
                have h1 : pi.2 ∈ ps.map Prod.snd := List.mem_map.2 ⟨pi, by rw [← hp.out]; exact List.getElem_mem hlt3, rfl⟩
                rw [hps.out] at h1
                have h2 := reSteps_len (m := rg.length) (l1.take j) (rs := [rg]) (fun r hr => by rw [List.mem_singleton.1 hr]; exact Nat.le_refl _) pi.2 h1
                have h3 : rg.length = k := by rw [hrg.out]; simp
                have := hk2.out
                omega
              have hn62 : pi.2.length ≤ 4611686018427387904 := by omega
              have hq0 : Calls Try.prog 69 #[.slice A0 pi.2.length c0, .int .i64 ch.f0] wr fun e w'' => e = .returned (.bool (pi.2.contains ch.f0)) ∧ Drawn0 wr w'' :=
                spec_l1Has.calls _ _ _ _ _ _ _ hC0 hl0 (l1Has_ev pi.2 ch.f0 hn62)
              have hq1 : ∀ n, Calls Try.prog 69 #[.slice A0 pi.2.length c0, .int .i64 ch.f1] (wr.drewN n) fun e w'' => e = .returned (.bool (pi.2.contains ch.f1)) ∧ Drawn0 (wr.drewN n) w'' :=
                fun n => spec_l1Has.calls _ _ _ _ _ _ _ (Kd.C_drewN hC0 n) hl0 (l1Has_ev pi.2 ch.f1 hn62)
              have hhit : reHit ch.f0 ch.f1 pi.2 = (pi.2.contains ch.f0 && pi.2.contains ch.f1) := rfl
              generalize hb0 : pi.2.contains ch.f0 = b0 at hq0 hhit
              generalize hb1 : pi.2.contains ch.f1 = b1 at hq1 hhit
              clear hb0 hb1
              replace hhit := Aside0.mk hhit
              have hv0 := Aside0.mk hv0
              have hC0 := Aside0.mk hC0
              clear hn62
              replace hp60 := Aside0.mk hp60
              have hnext : Aside0 (reHit ch.f0 ch.f1 pi.2 = false → ∀ q ∈ ps.take (i + 1), reHit ch.f0 ch.f1 q.2 = false) := ⟨fun hh q hq => by
                rw [ht.out] at hq
                rcases List.mem_append.1 hq with hq | hq
                · exact hno.out q hq
                · rw [List.mem_singleton.1 hq]; exact hh⟩
              cases b0 with
              | false =>
                go_wp2_with (go_at_call 69; refine hq0.mono ?_; rintro e w' ⟨rfl, ⟨nd, rfl⟩⟩)
                go_roundw
                case rel => exact ⟨i + 1, rfl, by go_num, ⟨by omega⟩, ⟨hnext.out (by rw [hhit.out]; rfl)⟩, ⟨pw_below_drewN HW.out _⟩⟩
                case measure => simp [intOf]; omega
              | true =>
                cases b1 with
                | false =>
                  go_wp2_with fail
                  (with_reducible refine hq0.mono ?_)
                  rintro e w' ⟨rfl, ⟨nd, rfl⟩⟩
                  go_wp2_with fail
                  (with_reducible refine (hq1 _).mono ?_)
                  rintro e w' ⟨rfl, ⟨nd2, rfl⟩⟩
                  go_wp2_with fail
                  go_roundw
                  case rel => exact ⟨i + 1, rfl, by go_num, ⟨by omega⟩, ⟨hnext.out (by rw [hhit.out]; rfl)⟩, ⟨pw_below_drewN HW.out _⟩⟩
                  case measure => simp [intOf]; omega
                | true => 
                  go_wp2_with fail
                  (with_reducible refine hq0.mono ?_)
                  rintro e w' ⟨rfl, ⟨nd, rfl⟩⟩
                  go_wp2_with fail
                  (with_reducible refine (hq1 _).mono ?_)
                  rintro e w' ⟨rfl, ⟨nd2, rfl⟩⟩
                  go_wp2_with fail
                  have HWd : Below wc.heap.size wc (wr.drewN (nd + nd2)) := pw_below_drewN HW.out _
                  have hCd := Kd.C_drewN hC0.out (nd + nd2)
                  have k0d := (HWd.cell (World.block_lt_of_cell? wc _ K0.out)).trans K0.out
                  have k1d := (HWd.cell (World.block_lt_of_cell? wc _ K1.out)).trans K1.out
                  clear k0 k1 hcell hq0 hq1
                  generalize wr.drewN (nd + nd2) = wd at HWd hCd k0d k1d ⊢
                  replace HWd := Aside0.mk HWd
                  replace hCd := Aside0.mk hCd
                  replace k0d := Aside0.mk k0d
                  replace k1d := Aside0.mk k1d
                  go_loopw [12, 13, 60] (fun v12 v13 v60 we => ∃ q : Nat, v60 = .int .i64 (q : Int) ∧ Aside0 (q ≤ pi.2.length) ∧ Aside0 ((Kd.int .i64).R 3 we wd.heap.size (fun k_ => some k_ ≠ v13.ownBlock) v12 (reIn ch.f0 ch.f1 (pi.2.take q))) ∧ Aside0 ((Kd.int .i64).R 3 we wd.heap.size (fun k_ => some k_ ≠ v12.ownBlock) v13 (reOut ch.f0 ch.f1 (pi.2.take q))) ∧ Aside0 (Below wd.heap.size wd we)) (fun _ _ v60 _ => pi.2.length - (intOf v60).toNat)
                  case atStart => exact ⟨0, rfl, ⟨Nat.zero_le _⟩, ⟨Kd.R_nil _ _ _ _ _⟩, ⟨Kd.R_nil _ _ _ _ _⟩, ⟨Below.refl _ _⟩⟩
                  case round =>
                    obtain ⟨q, rfl, hq, HI, HU, HE⟩ := hrel
                    replace hq := hq.out
                    have hq60 := hp60.out
                    by_cases hlt4 : q < pi.2.length
                    · have hl4 : decide ((q : Int) < (pi.2.length : Int)) = true := decide_eq_true (by omega)
                      have hCe := Kd.C_below hCd.out HE.out
                      obtain ⟨ad0, ea0, hx⟩ := Kd.at_int hCe (q : Int) (by omega) (by omega)
                      cases ea0
                      rw [Int.toNat_natCast] at hx
                      rw [rd_at hlt4] at hx
                      have hts : pi.2.take (q + 1) = pi.2.take q ++ [pi.2[q]] := List.take_succ_eq_append_getElem hlt4
                      generalize pi.2[q] = x at hx hts
                      have hIn : reIn ch.f0 ch.f1 (pi.2.take (q + 1)) = reIn ch.f0 ch.f1 (pi.2.take q) ++ if ch.f0 ≤ x ∧ x ≤ ch.f1 then [x] else [] := by
                        rw [hts]; unfold reIn; rw [List.filter_append]; by_cases h : ch.f0 ≤ x ∧ x ≤ ch.f1 <;> simp [h]
                      have hOut : reOut ch.f0 ch.f1 (pi.2.take (q + 1)) = reOut ch.f0 ch.f1 (pi.2.take q) ++ if x ≤ ch.f0 ∨ ch.f1 ≤ x then [x] else [] := by
                        rw [hts]; unfold reOut; rw [List.filter_append]; by_cases h : x ≤ ch.f0 ∨ ch.f1 ≤ x <;> simp [h]
                      have hlI : (reIn ch.f0 ch.f1 (pi.2.take q)).length ≤ 60 := Nat.le_trans (List.length_filter_le _ _) (by rw [List.length_take]; omega)
                      have hlU : (reOut ch.f0 ch.f1 (pi.2.take q)).length ≤ 60 := Nat.le_trans (List.length_filter_le _ _) (by rw [List.length_take]; omega)
                      generalize reIn ch.f0 ch.f1 (pi.2.take q) = li at HI hIn hlI
                      generalize reOut ch.f0 ch.f1 (pi.2.take q) = lu at HU hOut hlU
                      have k0e := (HE.out.cell (World.block_lt_of_cell? wd _ k0d.out)).trans k0d.out
                      have k1e := (HE.out.cell (World.block_lt_of_cell? wd _ k1d.out)).trans k1d.out
                      replace hIn := Aside0.mk hIn
                      replace hOut := Aside0.mk hOut
                      clear hts hCe
                      have hcall : ∀ W b, decide (ch.f0 ≤ x ∧ x ≤ ch.f1) = b → Calls Try.prog 61 #[.int .i64 x, .int .i64 ch.f0, .int .i64 ch.f1] W fun e w'' => e = .returned (.bool b) ∧ Drawn0 W w'' := fun W b hb => spec_l1In.calls _ _ _ _ W (by rw [l1In_eq, hb])
                      by_cases h0 : ch.f0 ≤ x ∧ x ≤ ch.f1
                      · by_cases h1 : x ≤ ch.f0
                        · have b1 : decide (x ≤ ch.f0) = true := decide_eq_true h1
                          go_wp2_with fail
                          (with_reducible refine (hcall _ true (decide_eq_true h0)).mono ?_)
                          rintro e w' ⟨rfl, ⟨nd4, rfl⟩⟩
                          go_wp2_with (first | ((with_reducible refine gate_builtin (b := .append) (xs := #[.tmp 70, .tmp 72]) rfl ?_); at_builtin; refine Kd.R_append (Kd.int .i64) (w0 := wd) wd.heap.size rfl (.tmp 70) (.tmp 72) 24 3 (.int .i64 0) 8 rfl Try.underlying24 info3 rfl (by decide) (by omega) _ li x [.int .i64 x] (fun k_ => some k_ ≠ (u13 : Value).ownBlock) (fun _ => False) rfl rfl rfl (fun _ hk => hk.elim) ?aF ?aO ?aB ?aS ?aL ?_; (case aF => exact fun k_ hk_ => Kd.fresh' (Kd.R_lt (Kd.R_drewN HU.out nd4)) k_ hk_); (case aO => exact (Kd.R_drewN HI.out nd4)); (case aB => exact (pw_below_drewN HE.out nd4)); (case aS => exact ((pw_below_drewN HE.out nd4)).size); (case aL => omega); intro v5 w5 ho_ hb_ hg_ hat_; have hn_ := Kd.R_mono (ok' := fun k_ => some k_ ≠ (v5 : Value).ownBlock) (Kd.R_after (ok := fun _ => True) (Kd.R_mono (Kd.R_drewN HU.out nd4) (fun _ h => ⟨trivial, h⟩)) hg_ hat_) (fun _ h => h.2); have k05 := (hb_.cell (World.block_lt_of_cell? wd _ k0d.out)).trans k0d.out; have k15 := (hb_.cell (World.block_lt_of_cell? wd _ k1d.out)).trans k1d.out; have R5 := Aside0.mk ho_; have O5 := Aside0.mk hn_; have B5 := Aside0.mk hb_; clear ho_ hn_ hb_ hg_ hat_) | ((with_reducible refine gate_builtin (b := .append) (xs := #[.tmp 84, .tmp 86]) rfl ?_); at_builtin; refine Kd.R_append (Kd.int .i64) (w0 := wd) wd.heap.size rfl (.tmp 84) (.tmp 86) 24 3 (.int .i64 0) 8 rfl Try.underlying24 info3 rfl (by decide) (by omega) _ lu x [.int .i64 x] (fun k_ => some k_ ≠ (v5 : Value).ownBlock) (fun _ => False) rfl rfl rfl (fun _ hk => hk.elim) ?aF ?aO ?aB ?aS ?aL ?_; (case aF => exact fun k_ hk_ => Kd.fresh' (Kd.R_lt R5.out) k_ hk_); (case aO => exact O5.out); (case aB => exact B5.out); (case aS => exact (B5.out).size); (case aL => omega); intro v6 w6 ho_ hb_ hg_ hat_; have hn_ := Kd.R_mono (ok' := fun k_ => some k_ ≠ (v6 : Value).ownBlock) (Kd.R_after (ok := fun _ => True) (Kd.R_mono R5.out (fun _ h => ⟨trivial, h⟩)) hg_ hat_) (fun _ h => h.2); have k06 := (hb_.cell (World.block_lt_of_cell? wd _ k0d.out)).trans k0d.out; have k16 := (hb_.cell (World.block_lt_of_cell? wd _ k1d.out)).trans k1d.out; have R6 := Aside0.mk ho_; have O6 := Aside0.mk hn_; have B6 := Aside0.mk hb_; clear ho_ hn_ hb_ hg_ hat_))
                          go_roundw
                          case rel => exact ⟨q + 1, by go_num, ⟨by omega⟩, ⟨by rw [hIn.out, if_pos h0]; exact O6.out⟩, ⟨by rw [hOut.out, if_pos (by omega)]; exact R6.out⟩, B6⟩
                          case measure => simp [intOf]; omega
                        · by_cases h2 : ch.f1 ≤ x
                          · have b1 : decide (x ≤ ch.f0) = false := decide_eq_false h1
                            have b2 : decide (ch.f1 ≤ x) = true := decide_eq_true h2
                            have b3 : decide (x ≥ ch.f1) = true := decide_eq_true h2
                            go_wp2_with fail
                            (with_reducible refine (hcall _ true (decide_eq_true h0)).mono ?_)
                            rintro e w' ⟨rfl, ⟨nd4, rfl⟩⟩
                            go_wp2_with (first | ((with_reducible refine gate_builtin (b := .append) (xs := #[.tmp 70, .tmp 72]) rfl ?_); at_builtin; refine Kd.R_append (Kd.int .i64) (w0 := wd) wd.heap.size rfl (.tmp 70) (.tmp 72) 24 3 (.int .i64 0) 8 rfl Try.underlying24 info3 rfl (by decide) (by omega) _ li x [.int .i64 x] (fun k_ => some k_ ≠ (u13 : Value).ownBlock) (fun _ => False) rfl rfl rfl (fun _ hk => hk.elim) ?aF ?aO ?aB ?aS ?aL ?_; (case aF => exact fun k_ hk_ => Kd.fresh' (Kd.R_lt (Kd.R_drewN HU.out nd4)) k_ hk_); (case aO => exact (Kd.R_drewN HI.out nd4)); (case aB => exact (pw_below_drewN HE.out nd4)); (case aS => exact ((pw_below_drewN HE.out nd4)).size); (case aL => omega); intro v5 w5 ho_ hb_ hg_ hat_; have hn_ := Kd.R_mono (ok' := fun k_ => some k_ ≠ (v5 : Value).ownBlock) (Kd.R_after (ok := fun _ => True) (Kd.R_mono (Kd.R_drewN HU.out nd4) (fun _ h => ⟨trivial, h⟩)) hg_ hat_) (fun _ h => h.2); have k05 := (hb_.cell (World.block_lt_of_cell? wd _ k0d.out)).trans k0d.out; have k15 := (hb_.cell (World.block_lt_of_cell? wd _ k1d.out)).trans k1d.out; have R5 := Aside0.mk ho_; have O5 := Aside0.mk hn_; have B5 := Aside0.mk hb_; clear ho_ hn_ hb_ hg_ hat_) | ((with_reducible refine gate_builtin (b := .append) (xs := #[.tmp 84, .tmp 86]) rfl ?_); at_builtin; refine Kd.R_append (Kd.int .i64) (w0 := wd) wd.heap.size rfl (.tmp 84) (.tmp 86) 24 3 (.int .i64 0) 8 rfl Try.underlying24 info3 rfl (by decide) (by omega) _ lu x [.int .i64 x] (fun k_ => some k_ ≠ (v5 : Value).ownBlock) (fun _ => False) rfl rfl rfl (fun _ hk => hk.elim) ?aF ?aO ?aB ?aS ?aL ?_; (case aF => exact fun k_ hk_ => Kd.fresh' (Kd.R_lt R5.out) k_ hk_); (case aO => exact O5.out); (case aB => exact B5.out); (case aS => exact (B5.out).size); (case aL => omega); intro v6 w6 ho_ hb_ hg_ hat_; have hn_ := Kd.R_mono (ok' := fun k_ => some k_ ≠ (v6 : Value).ownBlock) (Kd.R_after (ok := fun _ => True) (Kd.R_mono R5.out (fun _ h => ⟨trivial, h⟩)) hg_ hat_) (fun _ h => h.2); have k06 := (hb_.cell (World.block_lt_of_cell? wd _ k0d.out)).trans k0d.out; have k16 := (hb_.cell (World.block_lt_of_cell? wd _ k1d.out)).trans k1d.out; have R6 := Aside0.mk ho_; have O6 := Aside0.mk hn_; have B6 := Aside0.mk hb_; clear ho_ hn_ hb_ hg_ hat_))
                            go_roundw
                            case rel => exact ⟨q + 1, by go_num, ⟨by omega⟩, ⟨by rw [hIn.out, if_pos h0]; exact O6.out⟩, ⟨by rw [hOut.out, if_pos (by omega)]; exact R6.out⟩, B6⟩
                            case measure => simp [intOf]; omega
                          · have b1 : decide (x ≤ ch.f0) = false := decide_eq_false h1
                            have b2 : decide (ch.f1 ≤ x) = false := decide_eq_false h2
                            have b3 : decide (x ≥ ch.f1) = false := decide_eq_false h2
                            go_wp2_with fail
                            (with_reducible refine (hcall _ true (decide_eq_true h0)).mono ?_)
                            rintro e w' ⟨rfl, ⟨nd4, rfl⟩⟩
                            go_wp2_with (((with_reducible refine gate_builtin (b := .append) (xs := #[.tmp 70, .tmp 72]) rfl ?_); at_builtin; refine Kd.R_append (Kd.int .i64) (w0 := wd) wd.heap.size rfl (.tmp 70) (.tmp 72) 24 3 (.int .i64 0) 8 rfl Try.underlying24 info3 rfl (by decide) (by omega) _ li x [.int .i64 x] (fun k_ => some k_ ≠ (u13 : Value).ownBlock) (fun _ => False) rfl rfl rfl (fun _ hk => hk.elim) ?aF ?aO ?aB ?aS ?aL ?_; (case aF => exact fun k_ hk_ => Kd.fresh' (Kd.R_lt (Kd.R_drewN HU.out nd4)) k_ hk_); (case aO => exact (Kd.R_drewN HI.out nd4)); (case aB => exact (pw_below_drewN HE.out nd4)); (case aS => exact ((pw_below_drewN HE.out nd4)).size); (case aL => omega); intro v5 w5 ho_ hb_ hg_ hat_; have hn_ := Kd.R_mono (ok' := fun k_ => some k_ ≠ (v5 : Value).ownBlock) (Kd.R_after (ok := fun _ => True) (Kd.R_mono (Kd.R_drewN HU.out nd4) (fun _ h => ⟨trivial, h⟩)) hg_ hat_) (fun _ h => h.2); have k05 := (hb_.cell (World.block_lt_of_cell? wd _ k0d.out)).trans k0d.out; have k15 := (hb_.cell (World.block_lt_of_cell? wd _ k1d.out)).trans k1d.out; have R5 := Aside0.mk ho_; have O5 := Aside0.mk hn_; have B5 := Aside0.mk hb_; clear ho_ hn_ hb_ hg_ hat_))
                            go_roundw
                            case rel => exact ⟨q + 1, by go_num, ⟨by omega⟩, ⟨by rw [hIn.out, if_pos h0]; exact R5.out⟩, ⟨by rw [hOut.out, if_neg (by omega), List.append_nil]; exact O5.out⟩, B5⟩
                            case measure => simp [intOf]; omega
                      · by_cases h1 : x ≤ ch.f0
                        · have b1 : decide (x ≤ ch.f0) = true := decide_eq_true h1
                          go_wp2_with fail
                          (with_reducible refine (hcall _ false (decide_eq_false h0)).mono ?_)
                          rintro e w' ⟨rfl, ⟨nd4, rfl⟩⟩
                          go_wp2_with (((with_reducible refine gate_builtin (b := .append) (xs := #[.tmp 84, .tmp 86]) rfl ?_); at_builtin; refine Kd.R_append (Kd.int .i64) (w0 := wd) wd.heap.size rfl (.tmp 84) (.tmp 86) 24 3 (.int .i64 0) 8 rfl Try.underlying24 info3 rfl (by decide) (by omega) _ lu x [.int .i64 x] (fun k_ => some k_ ≠ (u12 : Value).ownBlock) (fun _ => False) rfl rfl rfl (fun _ hk => hk.elim) ?aF ?aO ?aB ?aS ?aL ?_; (case aF => exact fun k_ hk_ => Kd.fresh' (Kd.R_lt (Kd.R_drewN HI.out nd4)) k_ hk_); (case aO => exact (Kd.R_drewN HU.out nd4)); (case aB => exact (pw_below_drewN HE.out nd4)); (case aS => exact ((pw_below_drewN HE.out nd4)).size); (case aL => omega); intro v6 w6 ho_ hb_ hg_ hat_; have hn_ := Kd.R_mono (ok' := fun k_ => some k_ ≠ (v6 : Value).ownBlock) (Kd.R_after (ok := fun _ => True) (Kd.R_mono (Kd.R_drewN HI.out nd4) (fun _ h => ⟨trivial, h⟩)) hg_ hat_) (fun _ h => h.2); have k06 := (hb_.cell (World.block_lt_of_cell? wd _ k0d.out)).trans k0d.out; have k16 := (hb_.cell (World.block_lt_of_cell? wd _ k1d.out)).trans k1d.out; have R6 := Aside0.mk ho_; have O6 := Aside0.mk hn_; have B6 := Aside0.mk hb_; clear ho_ hn_ hb_ hg_ hat_))
                          go_roundw
                          case rel => exact ⟨q + 1, by go_num, ⟨by omega⟩, ⟨by rw [hIn.out, if_neg h0, List.append_nil]; exact O6.out⟩, ⟨by rw [hOut.out, if_pos (by omega)]; exact R6.out⟩, B6⟩
                          case measure => simp [intOf]; omega
                        · by_cases h2 : ch.f1 ≤ x
                          · have b1 : decide (x ≤ ch.f0) = false := decide_eq_false h1
                            have b2 : decide (ch.f1 ≤ x) = true := decide_eq_true h2
                            have b3 : decide (x ≥ ch.f1) = true := decide_eq_true h2
                            go_wp2_with fail
                            (with_reducible refine (hcall _ false (decide_eq_false h0)).mono ?_)
                            rintro e w' ⟨rfl, ⟨nd4, rfl⟩⟩
                            go_wp2_with (((with_reducible refine gate_builtin (b := .append) (xs := #[.tmp 84, .tmp 86]) rfl ?_); at_builtin; refine Kd.R_append (Kd.int .i64) (w0 := wd) wd.heap.size rfl (.tmp 84) (.tmp 86) 24 3 (.int .i64 0) 8 rfl Try.underlying24 info3 rfl (by decide) (by omega) _ lu x [.int .i64 x] (fun k_ => some k_ ≠ (u12 : Value).ownBlock) (fun _ => False) rfl rfl rfl (fun _ hk => hk.elim) ?aF ?aO ?aB ?aS ?aL ?_; (case aF => exact fun k_ hk_ => Kd.fresh' (Kd.R_lt (Kd.R_drewN HI.out nd4)) k_ hk_); (case aO => exact (Kd.R_drewN HU.out nd4)); (case aB => exact (pw_below_drewN HE.out nd4)); (case aS => exact ((pw_below_drewN HE.out nd4)).size); (case aL => omega); intro v6 w6 ho_ hb_ hg_ hat_; have hn_ := Kd.R_mono (ok' := fun k_ => some k_ ≠ (v6 : Value).ownBlock) (Kd.R_after (ok := fun _ => True) (Kd.R_mono (Kd.R_drewN HI.out nd4) (fun _ h => ⟨trivial, h⟩)) hg_ hat_) (fun _ h => h.2); have k06 := (hb_.cell (World.block_lt_of_cell? wd _ k0d.out)).trans k0d.out; have k16 := (hb_.cell (World.block_lt_of_cell? wd _ k1d.out)).trans k1d.out; have R6 := Aside0.mk ho_; have O6 := Aside0.mk hn_; have B6 := Aside0.mk hb_; clear ho_ hn_ hb_ hg_ hat_))
                            go_roundw
                            case rel => exact ⟨q + 1, by go_num, ⟨by omega⟩, ⟨by rw [hIn.out, if_neg h0, List.append_nil]; exact O6.out⟩, ⟨by rw [hOut.out, if_pos (by omega)]; exact R6.out⟩, B6⟩
                            case measure => simp [intOf]; omega
                          · exact absurd (show ch.f0 ≤ x ∧ x ≤ ch.f1 by omega) h0
                    · have hl4 : decide ((q : Int) < (pi.2.length : Int)) = false := decide_eq_false (by omega)
                      obtain rfl : q = pi.2.length := by omega
                      clear hlt4
                      rw [List.take_length] at HI HU
                      obtain ⟨A12, c12, e12⟩ := Kd.R_slice HI.out
                      subst e12
                      obtain ⟨A13, c13, e13⟩ := Kd.R_slice HU.out
                      subst e13
                      generalize hli : reIn ch.f0 ch.f1 pi.2 = li at HI HU ⊢
                      generalize hlu : reOut ch.f0 ch.f1 pi.2 = lu at HI HU ⊢
                      have HPe := Aside0.mk (RowsP.parted (i := i) (HPc.out.below HWd.out) HE.out HI.out HU.out (Nat.le_trans HBc.out.size HWd.out.size))
                      have HCe := Aside0.mk (Kd.C_below (Kd.C_below HCc.out HWd.out) HE.out)
                      have HBe := Aside0.mk (below_then (below_then HBc.out HBc.out.size HWd.out) (Nat.le_trans HBc.out.size HWd.out.size) HE.out)
                      clear HI HU
                      obtain ⟨i0_, hi0_, hz0_⟩ := Option.map_eq_some_iff.1 info24
                      simp only [Prod.mk.injEq] at hz0_
                      obtain ⟨AD, hcut, hAD⟩ := cut_row (P := Try.prog) 37 24 Try.underlying37 hi0_ hz0_.2.1 (some ad7) ps.length c7 (i + 1) (by omega) hc7.out
                      clear hz0_ hi0_
                      have hic : i ≤ c7 := by have := hc7.out; omega
                      have hw1 : ((i + 1 : Nat) : Int) = (i : Int) + 1 := by omega
                      rw [hw1] at hcut
                      clear hw1
                      go_wp2_with (first | ((with_reducible refine gate_builtin (b := .append) (xs := #[.tmp 89, .tmp 92]) rfl ?_); at_builtin; refine Kd.R_append_rows (Kd.raw 1) (w0 := wr) wr.heap.size rfl (.tmp 89) (.tmp 92) 37 24 (.slice none 0 0) 24 rfl Try.underlying37 info24 rfl (by decide) (by omega) _ [] ((ps.map fun p => [p.1]).take i) _ _ _ (fun _ => True) (fun _ => False) rfl rfl (none_row wr wr.heap.size 24 (Nat.le_refl _)) (take_row _ (Kd.C_below HCe.out (below_alloc (Below.refl _ _) _)) (Nat.le_of_lt hlt3)) (fun _ _ h => h) (fun _ h => h.elim) (fun _ _ => trivial) (below_alloc (Below.refl _ _) _) (below_alloc (Below.refl _ _) _).size ?aL ?_; (case aL => simp; omega); intro v5 w5 ho_ hb_ hg_ hat_; have R5 := Aside0.mk ho_; have B5 := Aside0.mk hb_; clear ho_ hb_ hg_ hat_) | ((with_reducible refine gate_builtin (b := .append) (xs := #[.tmp 93, .tmp 96]) rfl ?_); at_builtin; refine Kd.R_append_rows (Kd.raw 1) (w0 := wr) wr.heap.size rfl (.tmp 93) (.tmp 96) 37 24 (.slice none 0 0) 24 rfl Try.underlying37 info24 rfl (by decide) (by omega) _ _ _ _ _ _ (fun _ => True) (fun _ => False) rfl rfl (Kd.R_alloc R5.out _) (two_row w5 (.slice A12 li.length c12) (.slice A13 lu.length c13) 24 rfl rfl) (fun _ _ h => h) (fun _ h => h.elim) (fun _ _ => trivial) (below_alloc2 B5.out _) (below_alloc2 B5.out _).size ?aL ?_; (case aL => simp; omega); intro v6 w6 ho_ hb_ hg_ hat_; have R6 := Aside0.mk ho_; have B6 := Aside0.mk hb_; clear ho_ hb_ hg_ hat_) | ((with_reducible refine gate_builtin (b := .append) (xs := #[.tmp 98, .tmp 102]) rfl ?_); at_builtin; refine Kd.R_append_rows (Kd.raw 1) (w0 := wr) wr.heap.size rfl (.tmp 98) (.tmp 102) 37 24 (.slice none 0 0) 24 rfl Try.underlying37 info24 rfl (by decide) (by omega) _ _ _ _ _ _ (fun _ => True) (fun _ => False) rfl rfl R6.out (hAD (Kd.raw 1) w6 (ps.map fun p => [p.1]) rfl (Kd.C_below HCe.out B6.out)) (fun _ _ h => h) (fun _ h => h.elim) (fun _ _ => trivial) B6.out B6.out.size ?aL ?_; (case aL => simp; omega); intro v7 w7 ho_ hb_ hg_ hat_; have R7 := Aside0.mk ho_; have B7 := Aside0.mk hb_; clear ho_ hb_ hg_ hat_))
                      have hstep : reStep (ps.map Prod.snd) ch = (ps.take i ++ [((.slice A12 li.length c12 : Value), li), (.slice A13 lu.length c13, lu)] ++ ps.drop (i + 1)).map Prod.snd := by
                        have h1 := reStep_at hlt3 ch hno.out (by rw [hp.out, hhit.out]; rfl) (.slice A12 li.length c12) (.slice A13 lu.length c13)
                        rw [hp.out, hli, hlu] at h1
                        exact h1
                      go_roundw
                      case rel => exact ⟨j + 1, ps.take i ++ [(.slice A12 li.length c12, li), (.slice A13 lu.length c13, lu)] ++ ps.drop (i + 1), by go_num, ⟨by omega⟩, ⟨by rw [← hstep, hps.out, take_foldl (f := reStep) (x := [rg]) hlt hc.out]⟩, ⟨by simp; omega⟩, ⟨HPe.out.below B7.out⟩, ⟨by
                        have h1 := Kd.R_lower R7.out (show w.heap.size ≤ wr.heap.size from HBe.out.size)
                        have h2 : (ps.take i ++ [((.slice A12 li.length c12 : Value), li), (.slice A13 lu.length c13, lu)] ++ ps.drop (i + 1)).map (fun p => [p.1]) = [] ++ (ps.map fun p => [p.1]).take i ++ [[.slice A12 li.length c12], [.slice A13 lu.length c13]] ++ (ps.map fun p => [p.1]).drop (i + 1) := by simp [List.map_take, List.map_drop]
                        unfold RowsO
                        rw [h2]
                        exact h1⟩, ⟨below_then HBe.out HBe.out.size B7.out⟩⟩
                      case measure => simp [intOf]; omega
            · have hl3 : decide ((i : Int) < (ps.length : Int)) = false := decide_eq_false (by omega)
              obtain rfl : i = ps.length := by omega
              rw [List.take_length] at hno
              have hstep := reStep_no ch hno.out
              go_wp2_with fail
              go_roundw
              case rel => exact ⟨j + 1, ps, by go_num, ⟨by omega⟩, ⟨by rw [← hstep, hps.out, take_foldl (f := reStep) (x := [rg]) hlt hc.out]⟩, ⟨by omega⟩, ⟨HPc.out.below HW.out⟩, ⟨HOc.out.below HW.out⟩, ⟨below_then HBc.out HBc.out.size HW.out⟩⟩
              case measure => simp [intOf]; omega
        · have hl : decide ((j : Int) < (l1.length : Int)) = false := decide_eq_false (by omega)
          obtain rfl : j = l1.length := by omega
          rw [List.take_length] at hps
          go_wp2_with fail
          obtain ⟨wo, rfl⟩ : ∃ wo : World, wo = wr := ⟨_, rfl⟩
          have hpl5 := hpl.out
          go_loopw [17, 108] (fun v17 v108 we => ∃ (m : Nat) (qs : List (Value × List Int)), v108 = .int .i64 (m : Int) ∧ Aside0 (m ≤ ps.length) ∧ Aside0 (qs.Perm (ps.take m)) ∧ Aside0 (qs.map Prod.snd = ((ps.take m).map Prod.snd).foldl rePut []) ∧ Aside0 (RowsO we w.heap.size v17 qs) ∧ Aside0 (Below wo.heap.size wo we)) (fun _ v108 _ => ps.length - (intOf v108).toNat)
          case atStart => exact ⟨0, [], rfl, ⟨Nat.zero_le _⟩, ⟨List.Perm.refl _⟩, ⟨rfl⟩, ⟨Kd.R_nil _ _ _ _ _⟩, ⟨Below.refl _ _⟩⟩
          case round =>
            clear hl
            obtain ⟨m, qs, rfl, hm, hpm, hqs, HQ, HW⟩ := hrel
            replace hm := hm.out
            have hql : qs.length = m := by have := hpm.out.length_eq; rw [List.length_take] at this; omega
            by_cases hlt : m < ps.length
            · have hl5 : decide ((m : Int) < (ps.length : Int)) = true := decide_eq_true (by omega)
              obtain ⟨ad7, A0, c0, ea7, hcell, hv0, hl0, hC0⟩ := RowsO.get (HP.out.below HW.out) (Kd.C_below HC.out HW.out) m hlt rfl
              cases ea7
              have ht : ps.take (m + 1) = ps.take m ++ [ps[m]] := List.take_succ_eq_append_getElem hlt
              have hp60 : ps[m].2.length ≤ 60 := by
                have h1 : ps[m].2 ∈ ps.map Prod.snd := List.mem_map.2 ⟨ps[m], List.getElem_mem hlt, rfl⟩
                rw [hps.out] at h1
                have h2 := reSteps_len (m := rg.length) l1 (rs := [rg]) (fun r hr => by rw [List.mem_singleton.1 hr]; exact Nat.le_refl _) _ h1
                have h3 : rg.length = k := by rw [hrg.out]; simp
                have := hk2.out
                omega
              generalize hp : ps[m] = pm at hcell hv0 hl0 hC0 ht hp60
              obtain ⟨A17, c17, e17, hc17, HC17⟩ := HQ.out.slice
              subst e17
              replace hp := Aside0.mk hp
              replace ht := Aside0.mk ht
              replace hv0 := Aside0.mk hv0
              replace hC0 := Aside0.mk hC0
              replace hp60 := Aside0.mk hp60
              replace hc17 := Aside0.mk hc17
              replace HC17 := Aside0.mk HC17
              replace hl0 := Aside0.mk hl0
              have hql2 := hql
              replace hql := Aside0.mk hql
              have hqm : qs.length ≤ 41 := by omega
              clear hql2
              go_wp2_with fail
              obtain ⟨wp, rfl⟩ : ∃ wp : World, wp = wr := ⟨_, rfl⟩
              have HQP := Aside0.mk (RowsP.perm ((HP.out.below HW.out).sub (List.take_sublist m ps)) hpm.out.symm)
              go_loopw [20] (fun v20 we => ∃ t : Nat, v20 = .int .i64 (t : Int) ∧ Aside0 (t ≤ qs.length) ∧ Aside0 (∀ x ∈ qs.drop t, lexLt pm.2 x.2 = true) ∧ Aside0 (Below wp.heap.size wp we)) (fun v20 _ => (intOf v20).toNat)
              case atStart => exact ⟨qs.length, rfl, ⟨Nat.le_refl _⟩, ⟨fun x hx => by simp at hx⟩, ⟨Below.refl _ _⟩⟩
              case round =>
                clear hcell hl5
                obtain ⟨t, rfl, htq, hall, HX⟩ := hrel
                have ht2 := htq.out
                have HBx := Aside0.mk (below_then (below_then HB.out HB.out.size HW.out) (Nat.le_trans HB.out.size HW.out.size) HX.out)
                have HCq := Aside0.mk (Kd.C_below HC17.out HX.out)
                by_cases h0 : t = 0
                · have hlast : ∀ s (hs : s < qs.length), t = s + 1 → lexLt pm.2 qs[s].2 = false := fun s hs he => absurd he (by omega)
                  replace hlast := Aside0.mk hlast
                  have hgt : decide (0 < t) = false := decide_eq_false (by omega)
                  have ht0 : (t : Int) ≤ 0 := by omega
                  clear h0
                  obtain ⟨i0_, hi0_, hz0_⟩ := Option.map_eq_some_iff.1 info24
                  simp only [Prod.mk.injEq] at hz0_
                  obtain ⟨AD, hcut, hAD⟩ := cut_row' (P := Try.prog) 37 24 Try.underlying37 hi0_ hz0_.2.1 A17 qs.length c17 t (t : Int) rfl htq.out hc17.out
                  have htake := take_cut (P := Try.prog) 37 24 Try.underlying37 hi0_ hz0_.2.1 A17 qs.length c17 t (t : Int) rfl (Nat.le_trans htq.out hc17.out)
                  clear hz0_ hi0_
                  go_wp2_with (first | ((with_reducible refine gate_builtin (b := .append) (xs := #[.tmp 127, .tmp 130]) rfl ?_); at_builtin; refine Kd.R_append_rows (Kd.raw 1) (w0 := wr) wr.heap.size rfl (.tmp 127) (.tmp 130) 37 24 (.slice none 0 0) 24 rfl Try.underlying37 info24 rfl (by decide) (by omega) _ [] ((qs.map fun p => [p.1]).take t) _ _ _ (fun _ => True) (fun _ => False) rfl rfl (none_row wr wr.heap.size 24 (Nat.le_refl _)) (take_row _ (Kd.C_below HCq.out (below_alloc (Below.refl _ _) _)) htq.out) (fun _ _ h => h) (fun _ h => h.elim) (fun _ _ => trivial) (below_alloc (Below.refl _ _) _) ((below_alloc (Below.refl _ _) _)).size ?aL ?_; (case aL => simp; omega); intro v5 w5 ho_ hb_ hg_ hat_; have R5 := Aside0.mk ho_; have B5 := Aside0.mk hb_; clear ho_ hb_ hg_ hat_) | ((with_reducible refine gate_builtin (b := .append) (xs := #[.tmp 131, .tmp 133]) rfl ?_); at_builtin; refine Kd.R_append_rows (Kd.raw 1) (w0 := wr) wr.heap.size rfl (.tmp 131) (.tmp 133) 37 24 (.slice none 0 0) 24 rfl Try.underlying37 info24 rfl (by decide) (by omega) _ _ _ _ _ _ (fun _ => True) (fun _ => False) rfl rfl (Kd.R_alloc R5.out _) (one_row w5 (.slice A0 pm.2.length c0) 24 rfl) (fun _ _ h => h) (fun _ h => h.elim) (fun _ _ => trivial) (below_alloc2 B5.out _) ((below_alloc2 B5.out _)).size ?aL ?_; (case aL => simp; omega); intro v6 w6 ho_ hb_ hg_ hat_; have R6 := Aside0.mk ho_; have B6 := Aside0.mk hb_; clear ho_ hb_ hg_ hat_) | ((with_reducible refine gate_builtin (b := .append) (xs := #[.tmp 135, .tmp 138]) rfl ?_); at_builtin; refine Kd.R_append_rows (Kd.raw 1) (w0 := wr) wr.heap.size rfl (.tmp 135) (.tmp 138) 37 24 (.slice none 0 0) 24 rfl Try.underlying37 info24 rfl (by decide) (by omega) _ _ _ _ _ _ (fun _ => True) (fun _ => False) rfl rfl R6.out (hAD (Kd.raw 1) w6 (qs.map fun p => [p.1]) rfl (Kd.C_below HCq.out B6.out)) (fun _ _ h => h) (fun _ h => h.elim) (fun _ _ => trivial) B6.out (B6.out).size ?aL ?_; (case aL => simp; omega); intro v7 w7 ho_ hb_ hg_ hat_; have R7 := Aside0.mk ho_; have B7 := Aside0.mk hb_; clear ho_ hb_ hg_ hat_))
                  go_roundw
                  case rel => exact ⟨m + 1, qs.take t ++ [(.slice A0 pm.2.length c0, pm.2)] ++ qs.drop t, by go_num, ⟨by omega⟩, ⟨by
                    rw [ht.out]
                    have e1 : pm = (.slice A0 pm.2.length c0, pm.2) := by rw [← hv0.out]
                    have h1 : (qs.take t ++ [((.slice A0 pm.2.length c0 : Value), pm.2)] ++ qs.drop t).Perm (qs ++ [pm]) := by
                      rw [← e1, List.append_assoc]
                      refine (List.Perm.append_left (qs.take t) List.perm_append_comm).trans ?_
                      rw [← List.append_assoc, List.take_append_drop]
                    exact h1.trans (hpm.out.append_right [pm])⟩, ⟨by
                    rw [ht.out, show ((ps.take m ++ [pm]).map Prod.snd).foldl rePut [] = rePut (qs.map Prod.snd) pm.2 from by rw [List.map_append, List.foldl_append, ← hqs.out]; rfl]
                    exact (rePut_at htq.out hall.out hlast.out _).symm⟩, ⟨by
                    have h1 := Kd.R_lower R7.out (show w.heap.size ≤ wr.heap.size from HBx.out.size)
                    have h2 : (qs.take t ++ [((.slice A0 pm.2.length c0 : Value), pm.2)] ++ qs.drop t).map (fun p => [p.1]) = [] ++ (qs.map fun p => [p.1]).take t ++ [[.slice A0 pm.2.length c0]] ++ (qs.map fun p => [p.1]).drop t := by simp [List.map_take, List.map_drop]
                    unfold RowsO
                    rw [h2]
                    exact h1⟩, ⟨below_then (below_then HW.out HW.out.size HX.out) (Nat.le_trans HW.out.size HX.out.size) B7.out⟩⟩
                  case measure => have := hlt; simp [intOf]; omega
                · obtain ⟨t1, rfl⟩ : ∃ t1, t = t1 + 1 := ⟨t - 1, by omega⟩
                  obtain ⟨ad17, A1_, c1_, ea17, hcell, hv1, hl1, hC1⟩ := RowsO.get (HQP.out.below HX.out) HCq.out t1 (by omega) rfl
                  cases ea17
                  have hgt : decide ((0 : Int) < ((t1 + 1 : Nat) : Int)) = true := decide_eq_true (by omega)
                  have hdr : qs.drop t1 = qs[t1] :: qs.drop (t1 + 1) := List.drop_eq_getElem_cons (by omega)
                  have hqi : ∀ s (hs : s < qs.length), t1 + 1 = s + 1 → qs[s] = qs[t1] := fun s hs he => by
                    have e : s = t1 := by omega
                    subst e
                    rfl
                  generalize hq1 : qs[t1] = q1 at hcell hv1 hl1 hC1 hdr hqi
                  clear hq1
                  have hcallL : Calls Try.prog 103 #[.slice A0 pm.2.length c0, .slice A1_ q1.2.length c1_] wr fun e w'' => e = .returned (.bool (lexLt pm.2 q1.2)) ∧ Drawn0 wr w'' :=
                    spec_reLess.calls _ _ _ _ _ _ _ _ _ (Kd.C_below (Kd.C_below hC0.out (Below.refl _ _)) HX.out) hl0.out hC1 hl1 (reLess_ev pm.2 q1.2 (by have := hp60.out; omega))
                  cases hb : lexLt pm.2 q1.2 with
                  | true =>
                    rw [hb] at hcallL
                    replace hb := Aside0.mk hb
                    replace hdr := Aside0.mk hdr
                    clear hqi
                    go_wp2_with fail
                    (with_reducible refine hcallL.mono ?_)
                    rintro e w' ⟨rfl, ⟨nd, rfl⟩⟩
                    go_wp2_with fail
                    go_roundw
                    case rel => exact ⟨t1, by first | rfl | go_num, ⟨by omega⟩, ⟨fun x hx => by
                      rw [hdr.out] at hx
                      rcases List.mem_cons.1 hx with rfl | hx
                      · exact hb.out
                      · exact hall.out x hx⟩, ⟨pw_below_drewN HX.out _⟩⟩
                    case measure => simp [intOf]
                  | false =>
                    rw [hb] at hcallL
                    replace hb := Aside0.mk hb
                    have hlast : Aside0 (∀ s (hs : s < qs.length), t1 + 1 = s + 1 → lexLt pm.2 qs[s].2 = false) := ⟨fun s hs he => by rw [hqi s hs he]; exact hb.out⟩
                    clear hqi
                    replace hdr := Aside0.mk hdr
                    obtain ⟨i0_, hi0_, hz0_⟩ := Option.map_eq_some_iff.1 info24
                    simp only [Prod.mk.injEq] at hz0_
                    obtain ⟨AD, hcut, hAD⟩ := cut_row' (P := Try.prog) 37 24 Try.underlying37 hi0_ hz0_.2.1 (some ad17) qs.length c17 (t1 + 1) ((t1 : Int) + 1) (by omega) htq.out hc17.out
                    have htake := take_cut (P := Try.prog) 37 24 Try.underlying37 hi0_ hz0_.2.1 (some ad17) qs.length c17 (t1 + 1) ((t1 : Int) + 1) (by omega) (Nat.le_trans htq.out hc17.out)
                    clear hz0_ hi0_
                    go_wp2_with fail
                    (with_reducible refine hcallL.mono ?_)
                    rintro e w' ⟨rfl, ⟨nd, rfl⟩⟩
                    have HXq := Aside0.mk (pw_below_drewN HX.out nd)
                    have HCr := Aside0.mk (Kd.C_drewN HCq.out nd)
                    have HBq := Aside0.mk (pw_below_drewN HBx.out nd)
                    clear hcallL hcell
                    generalize wr.drewN nd = wq at HXq HCr HBq ⊢
                    go_wp2_with (first | ((with_reducible refine gate_builtin (b := .append) (xs := #[.tmp 127, .tmp 130]) rfl ?_); at_builtin; refine Kd.R_append_rows (Kd.raw 1) (w0 := wq) wq.heap.size rfl (.tmp 127) (.tmp 130) 37 24 (.slice none 0 0) 24 rfl Try.underlying37 info24 rfl (by decide) (by omega) _ [] ((qs.map fun p => [p.1]).take (t1 + 1)) _ _ _ (fun _ => True) (fun _ => False) rfl rfl (none_row wq wq.heap.size 24 (Nat.le_refl _)) (take_row _ (Kd.C_below HCr.out (below_alloc (Below.refl _ _) _)) htq.out) (fun _ _ h => h) (fun _ h => h.elim) (fun _ _ => trivial) (below_alloc (Below.refl _ _) _) ((below_alloc (Below.refl _ _) _)).size ?aL ?_; (case aL => simp; omega); intro v5 w5 ho_ hb_ hg_ hat_; have R5 := Aside0.mk ho_; have B5 := Aside0.mk hb_; clear ho_ hb_ hg_ hat_) | ((with_reducible refine gate_builtin (b := .append) (xs := #[.tmp 131, .tmp 133]) rfl ?_); at_builtin; refine Kd.R_append_rows (Kd.raw 1) (w0 := wq) wq.heap.size rfl (.tmp 131) (.tmp 133) 37 24 (.slice none 0 0) 24 rfl Try.underlying37 info24 rfl (by decide) (by omega) _ _ _ _ _ _ (fun _ => True) (fun _ => False) rfl rfl (Kd.R_alloc R5.out _) (one_row w5 (.slice A0 pm.2.length c0) 24 rfl) (fun _ _ h => h) (fun _ h => h.elim) (fun _ _ => trivial) (below_alloc2 B5.out _) ((below_alloc2 B5.out _)).size ?aL ?_; (case aL => simp; omega); intro v6 w6 ho_ hb_ hg_ hat_; have R6 := Aside0.mk ho_; have B6 := Aside0.mk hb_; clear ho_ hb_ hg_ hat_) | ((with_reducible refine gate_builtin (b := .append) (xs := #[.tmp 135, .tmp 138]) rfl ?_); at_builtin; refine Kd.R_append_rows (Kd.raw 1) (w0 := wq) wq.heap.size rfl (.tmp 135) (.tmp 138) 37 24 (.slice none 0 0) 24 rfl Try.underlying37 info24 rfl (by decide) (by omega) _ _ _ _ _ _ (fun _ => True) (fun _ => False) rfl rfl R6.out (hAD (Kd.raw 1) w6 (qs.map fun p => [p.1]) rfl (Kd.C_below HCr.out B6.out)) (fun _ _ h => h) (fun _ h => h.elim) (fun _ _ => trivial) B6.out (B6.out).size ?aL ?_; (case aL => simp; omega); intro v7 w7 ho_ hb_ hg_ hat_; have R7 := Aside0.mk ho_; have B7 := Aside0.mk hb_; clear ho_ hb_ hg_ hat_))
                    go_roundw
                    case rel => exact ⟨m + 1, qs.take (t1 + 1) ++ [(.slice A0 pm.2.length c0, pm.2)] ++ qs.drop (t1 + 1), by go_num, ⟨by omega⟩, ⟨by
                      rw [ht.out]
                      have e1 : pm = (.slice A0 pm.2.length c0, pm.2) := by rw [← hv0.out]
                      have h1 : (qs.take (t1 + 1) ++ [((.slice A0 pm.2.length c0 : Value), pm.2)] ++ qs.drop (t1 + 1)).Perm (qs ++ [pm]) := by
                        rw [← e1, List.append_assoc]
                        refine (List.Perm.append_left (qs.take (t1 + 1)) List.perm_append_comm).trans ?_
                        rw [← List.append_assoc, List.take_append_drop]
                      exact h1.trans (hpm.out.append_right [pm])⟩, ⟨by
                      rw [ht.out, show ((ps.take m ++ [pm]).map Prod.snd).foldl rePut [] = rePut (qs.map Prod.snd) pm.2 from by rw [List.map_append, List.foldl_append, ← hqs.out]; rfl]
                      exact (rePut_at htq.out hall.out hlast.out _).symm⟩, ⟨by
                      have h1 := Kd.R_lower R7.out (show w.heap.size ≤ wq.heap.size from HBq.out.size)
                      have h2 : (qs.take (t1 + 1) ++ [((.slice A0 pm.2.length c0 : Value), pm.2)] ++ qs.drop (t1 + 1)).map (fun p => [p.1]) = [] ++ (qs.map fun p => [p.1]).take (t1 + 1) ++ [[.slice A0 pm.2.length c0]] ++ (qs.map fun p => [p.1]).drop (t1 + 1) := by simp [List.map_take, List.map_drop]
                      unfold RowsO
                      rw [h2]
                      exact h1⟩, ⟨below_then (below_then HW.out HW.out.size HXq.out) (Nat.le_trans HW.out.size HXq.out.size) B7.out⟩⟩
                    case measure => have := hlt; simp [intOf]; omega
            · have hl5 : decide ((m : Int) < (ps.length : Int)) = false := decide_eq_false (by omega)
              obtain rfl : m = ps.length := by omega
              rw [List.take_length] at hqs
              go_wp2_with fail
              go_ret
              refine ⟨_, rfl, ?_, below_then HB.out HB.out.size HW.out⟩
              have h1 := RowsO.S (RowsP.perm ((HP.out.below HW.out).sub (List.take_sublist ps.length ps)) hpm.out.symm) HQ.out
              have h2 : qs.map Prod.snd = r := by
                rw [hqs.out, hps.out, ← H.out, hrg.out, hk2.out]; rfl
              rw [h2] at h1
              exact h1
end Go.Proofs.Yteeghncofacmhaa.Q
end
section
/- Regions of plane sets of chords, as_ sets of points: the plain theory. No program is walked here. -/
namespace Go.Proofs.Yteeghncofacmhaa.Q
open Go.RowKit Go.Proofs.YteeghncofacmhaaW.PrintWords Go.Proofs.YteeghncofacmhaaW.PrintLast Go.Proofs.YteeghncofacmhaaW.PrintMore
set_option linter.unusedVariables false
set_option linter.unusedSimpArgs false
/-- Chords of n points, no two of which cross. -/
structure NC (n : Int) (l : List Ch) : Prop where
  ok : ∀ c ∈ l, 0 ≤ c.f0 ∧ c.f0 < c.f1 ∧ c.f1 < n
  nc : ∀ c ∈ l, ∀ d ∈ l, ¬ (c.f0 < d.f0 ∧ d.f0 < c.f1 ∧ c.f1 < d.f1)
theorem NC.sub {n : Int} {l l' : List Ch} (h : NC n l) (hs : ∀ c ∈ l', c ∈ l) : NC n l' := ⟨fun c hc => h.ok c (hs c hc), fun c hc d hd => h.nc c (hs c hc) d (hs d hd)⟩
/-- A chord lies below a place: the whole circle's, or a chord's inner side. -/
def below_ (d : Ch) : Option Ch → Prop
  | none => True
  | some c => d ≠ c ∧ c.f0 ≤ d.f0 ∧ d.f1 ≤ c.f1
instance instDecBelow (d : Ch) (q : Option Ch) : Decidable (below_ d q) := by cases q <;> unfold below_ <;> infer_instance
def within_ (x : Int) : Option Ch → Prop
  | none => True
  | some c => c.f0 ≤ x ∧ x ≤ c.f1
instance instDecWithin (x : Int) (q : Option Ch) : Decidable (within_ x q) := by cases q <;> unfold within_ <;> infer_instance
/-- The points of the region beside q's inner side. -/
def InF (l : List Ch) (q : Option Ch) (x : Int) : Prop := within_ x q ∧ ∀ d ∈ l, below_ d q → ¬ (d.f0 < x ∧ x < d.f1)
instance instDecInF (l : List Ch) (q : Option Ch) (x : Int) : Decidable (InF l q x) := by unfold InF; infer_instance
def ints (a : Int) (m : Nat) : List Int := (List.range m).map fun (i : Nat) => a + (i : Int)
theorem ints_succ (a : Int) (m : Nat) : ints a (m + 1) = a :: ints (a + 1) m := by
  unfold ints
  rw [List.range_succ_eq_map, List.map_cons, List.map_map]
  congr 1
  · simp
  · apply List.map_congr_left
    intro i _
    simp; omega
theorem mem_ints {a x : Int} {m : Nat} : x ∈ ints a m ↔ a ≤ x ∧ x < a + m := by
  unfold ints
  rw [List.mem_map]
  constructor
  · rintro ⟨i, hi, rfl⟩
    have := List.mem_range.1 hi; omega
  · rintro ⟨h1, h2⟩
    exact ⟨(x - a).toNat, List.mem_range.2 (by omega), by omega⟩
theorem ints_zero (m : Nat) : ints 0 m = (List.range m).map Int.ofNat := by
  unfold ints
  apply List.map_congr_left
  intro i _
  simp
theorem ints_lt (a : Int) : ∀ m : Nat, (ints a m).Pairwise (· < ·) := by
  intro m
  induction m generalizing a with
  | zero => exact .nil
  | succ m ih =>
    rw [ints_succ]
    exact List.pairwise_cons.2 ⟨fun x hx => by have := mem_ints.1 hx; omega, ih (a + 1)⟩
theorem ints_append (a : Int) (m k : Nat) : ints a (m + k) = ints a m ++ ints (a + m) k := by
  unfold ints
  rw [List.range_add, List.map_append, List.map_map]
  congr 1
  apply List.map_congr_left
  intro i _
  simp; omega
def face (n : Int) (l : List Ch) (q : Option Ch) : List Int := (ints 0 n.toNat).filter fun x => decide (InF l q x)
theorem mem_face {n : Int} {l : List Ch} {q : Option Ch} {x : Int} : x ∈ face n l q ↔ (0 ≤ x ∧ x < n) ∧ InF l q x := by
  unfold face
  rw [List.mem_filter, mem_ints, decide_eq_true_iff]
  constructor
  · rintro ⟨h1, h2⟩; exact ⟨by omega, h2⟩
  · rintro ⟨h1, h2⟩; exact ⟨by omega, h2⟩
theorem face_lt (n : Int) (l : List Ch) (q : Option Ch) : (face n l q).Pairwise (· < ·) := (ints_lt 0 _).filter _
/-- Whoever lies in one of two chords that do not cross, and they are not one: nested. -/
theorem nested {n : Int} {l : List Ch} (h : NC n l) {c d : Ch} (hc : c ∈ l) (hd : d ∈ l) (hne : c ≠ d) {a b : Int} (hab : a < b) (h1 : c.f0 ≤ a ∧ b ≤ c.f1) (h2 : d.f0 ≤ a ∧ b ≤ d.f1) : below_ c (some d) ∨ below_ d (some c) := by
  have n1 := h.nc c hc d hd
  have n2 := h.nc d hd c hc
  by_cases h3 : d.f0 ≤ c.f0 ∧ c.f1 ≤ d.f1
  · exact .inl ⟨hne, h3⟩
  · refine .inr ⟨fun e => hne e.symm, by omega, by omega⟩
/-- Two regions that share two points share the chord that joins them. -/
theorem shared {n : Int} {l : List Ch} (h : NC n l) {q q' : Option Ch} (hq : ∀ c, q = some c → c ∈ l) (hq' : ∀ c, q' = some c → c ∈ l) (hne : q ≠ q') {a b : Int} (hab : a < b)
    (ha : InF l q a) (hb : InF l q b) (ha' : InF l q' a) (hb' : InF l q' b) : ∃ c ∈ l, c.f0 = a ∧ c.f1 = b ∧ ((q = some c ∧ below_ c q') ∨ (q' = some c ∧ below_ c q)) := by
  have key : ∀ (c : Ch) (p : Option Ch), c ∈ l → below_ c p → InF l (some c) a → InF l (some c) b → InF l p a → InF l p b → c.f0 = a ∧ c.f1 = b := by
    intro c p hc hbl h1 h2 h3 h4
    have e1 := h3.2 c hc hbl
    have e2 := h4.2 c hc hbl
    have w1 : c.f0 ≤ a ∧ a ≤ c.f1 := h1.1
    have w2 : c.f0 ≤ b ∧ b ≤ c.f1 := h2.1
    omega
  cases q with
  | none =>
    cases q' with
    | none => exact absurd rfl hne
    | some d =>
      have hd := hq' d rfl
      have := key d none hd trivial ha' hb' ha hb
      exact ⟨d, hd, this.1, this.2, .inr ⟨rfl, trivial⟩⟩
  | some c =>
    have hc := hq c rfl
    cases q' with
    | none =>
      have := key c none hc trivial ha hb ha' hb'
      exact ⟨c, hc, this.1, this.2, .inl ⟨rfl, trivial⟩⟩
    | some d =>
      have hd := hq' d rfl
      have hcd : c ≠ d := fun e => hne (by rw [e])
      have w1 : c.f0 ≤ a ∧ a ≤ c.f1 := ha.1
      have w2 : c.f0 ≤ b ∧ b ≤ c.f1 := hb.1
      have w3 : d.f0 ≤ a ∧ a ≤ d.f1 := ha'.1
      have w4 : d.f0 ≤ b ∧ b ≤ d.f1 := hb'.1
      rcases nested h hc hd hcd hab ⟨w1.1, w2.2⟩ ⟨w3.1, w4.2⟩ with hb1 | hb1
      · have := key c (some d) hc hb1 ha hb ha' hb'
        exact ⟨c, hc, this.1, this.2, .inl ⟨rfl, hb1⟩⟩
      · have := key d (some c) hd hb1 ha' hb' ha hb
        exact ⟨d, hd, this.1, this.2, .inr ⟨rfl, hb1⟩⟩
/-! ### one chord more -/
def meas (n : Int) : Option Ch → Nat
  | none => n.toNat
  | some d => (d.f1 - d.f0).toNat
theorem notIn {l : List Ch} {q : Option Ch} {x : Int} (hw : within_ x q) (h : ¬ InF l q x) : ∃ d ∈ l, below_ d q ∧ d.f0 < x ∧ x < d.f1 :=
  Classical.byContradiction fun hn => h ⟨hw, fun d hd hb hx => hn ⟨d, hd, hb, hx⟩⟩
theorem meas_lt {n : Int} {l : List Ch} (h : NC n l) {d : Ch} (hd : d ∈ l) {q : Option Ch} (hq : ∀ e, q = some e → e ∈ l) (hb : below_ d q) : meas n (some d) < meas n q := by
  have h1 := h.ok d hd
  cases q with
  | none => simp only [meas]; omega
  | some e =>
    have h2 := h.ok e (hq e rfl)
    obtain ⟨hne, h3, h4⟩ := hb
    simp only [meas]
    have : ¬ (d.f0 = e.f0 ∧ d.f1 = e.f1) := fun he => hne (ch_ext he.1 he.2)
    omega
/-- Where a new chord lies: some region has both its points. -/
theorem home {n : Int} {l : List Ch} {c : Ch} (h : NC n (c :: l)) (hc : c ∉ l) : ∀ (m : Nat) (q : Option Ch), (∀ d, q = some d → d ∈ l) → meas n q ≤ m → below_ c q →
    ∃ p : Option Ch, (∀ d, p = some d → d ∈ l) ∧ below_ c p ∧ InF l p c.f0 ∧ InF l p c.f1 := by
  have hl : NC n l := h.sub (fun d hd => List.mem_cons_of_mem _ hd)
  have hco := h.ok c List.mem_cons_self
  intro m
  induction m with
  | zero =>
    intro q hq hm hb
    cases q with
    | none => simp only [meas] at hm; omega
    | some d => have := hl.ok d (hq d rfl); simp only [meas] at hm; omega
  | succ m ih =>
    intro q hq hm hb
    have w0 : within_ c.f0 q := by cases q with
      | none => trivial
      | some e => exact ⟨hb.2.1, by have := hb.2.2; omega⟩
    have w1 : within_ c.f1 q := by cases q with
      | none => trivial
      | some e => exact ⟨by have := hb.2.1; omega, hb.2.2⟩
    have go : ∀ d ∈ l, below_ d q → (d.f0 < c.f0 ∧ c.f0 < d.f1 ∨ d.f0 < c.f1 ∧ c.f1 < d.f1) → ∃ p : Option Ch, (∀ d, p = some d → d ∈ l) ∧ below_ c p ∧ InF l p c.f0 ∧ InF l p c.f1 := by
      intro d hd hbd hx
      have n1 := h.nc d (List.mem_cons_of_mem _ hd) c List.mem_cons_self
      have n2 := h.nc c List.mem_cons_self d (List.mem_cons_of_mem _ hd)
      have := meas_lt hl hd hq hbd
      refine ih (some d) (fun e he => by injection he with he; exact he ▸ hd) (by omega) ⟨fun e => hc (e ▸ hd), by omega, by omega⟩
    by_cases i0 : InF l q c.f0
    · by_cases i1 : InF l q c.f1
      · exact ⟨q, hq, hb, i0, i1⟩
      · obtain ⟨d, hd, hbd, hx⟩ := notIn w1 i1
        exact go d hd hbd (.inr hx)
    · obtain ⟨d, hd, hbd, hx⟩ := notIn w0 i0
      exact go d hd hbd (.inl hx)
section
variable {n : Int} {l : List Ch} {c : Ch} {p : Option Ch}
/-- The region that is parted: its inner side. -/
theorem part_in (h : NC n (c :: l)) (hc : c ∉ l) (hp : ∀ d, p = some d → d ∈ l) (hb : below_ c p) (h0 : InF l p c.f0) (h1 : InF l p c.f1) (x : Int) :
    InF (l ++ [c]) (some c) x ↔ InF l p x ∧ c.f0 ≤ x ∧ x ≤ c.f1 := by
  have hco := h.ok c List.mem_cons_self
  constructor
  · rintro ⟨hw, ha⟩
    have hw' : c.f0 ≤ x ∧ x ≤ c.f1 := hw
    refine ⟨⟨?_, fun d hd hbd hx => ?_⟩, hw'⟩
    · cases p with
      | none => trivial
      | some e => exact ⟨by have := hb.2.1; omega, by have := hb.2.2; omega⟩
    · have n1 := h.nc d (List.mem_cons_of_mem _ hd) c List.mem_cons_self
      have n2 := h.nc c List.mem_cons_self d (List.mem_cons_of_mem _ hd)
      have e0 := h0.2 d hd hbd
      have e1 := h1.2 d hd hbd
      have hdc : d ≠ c := fun e => hc (e ▸ hd)
      have hne : ¬ (d.f0 = c.f0 ∧ d.f1 = c.f1) := fun he => hdc (ch_ext he.1 he.2)
      exact ha d (List.mem_append_left _ hd) ⟨hdc, by omega, by omega⟩ hx
  · rintro ⟨⟨hw, ha⟩, hx⟩
    refine ⟨hx, fun d hd hbd hdx => ?_⟩
    rcases List.mem_append.1 hd with hd | hd
    · refine ha d hd ?_ hdx
      cases p with
      | none => trivial
      | some e =>
        have hb' : c ≠ e ∧ e.f0 ≤ c.f0 ∧ c.f1 ≤ e.f1 := hb
        have hbd' : d ≠ c ∧ c.f0 ≤ d.f0 ∧ d.f1 ≤ c.f1 := hbd
        refine ⟨fun e' => ?_, by omega, by omega⟩
        subst e'
        exact hb'.1 (ch_ext (by omega) (by omega))
    · exact hbd.1 (List.mem_singleton.1 hd)
/-- .. and its outer side. -/
theorem part_out (h : NC n (c :: l)) (hb : below_ c p) (x : Int) : InF (l ++ [c]) p x ↔ InF l p x ∧ (x ≤ c.f0 ∨ c.f1 ≤ x) := by
  constructor
  · rintro ⟨hw, ha⟩
    refine ⟨⟨hw, fun d hd => ha d (List.mem_append_left _ hd)⟩, ?_⟩
    have := ha c (List.mem_append_right _ List.mem_cons_self) hb
    omega
  · rintro ⟨⟨hw, ha⟩, hx⟩
    refine ⟨hw, fun d hd hbd hdx => ?_⟩
    rcases List.mem_append.1 hd with hd | hd
    · exact ha d hd hbd hdx
    · rw [List.mem_singleton.1 hd] at hdx; omega
/-- Every other region stays. -/
theorem part_other (h : NC n (c :: l)) (hc : c ∉ l) (hp : ∀ d, p = some d → d ∈ l) (hb : below_ c p) (h0 : InF l p c.f0) (h1 : InF l p c.f1) {q : Option Ch} (hq : ∀ d, q = some d → d ∈ l) (hne : q ≠ p) (x : Int) :
    InF (l ++ [c]) q x ↔ InF l q x := by
  have hl : NC n l := h.sub (fun d hd => List.mem_cons_of_mem _ hd)
  have hco := h.ok c List.mem_cons_self
  constructor
  · rintro ⟨hw, ha⟩
    exact ⟨hw, fun d hd => ha d (List.mem_append_left _ hd)⟩
  · rintro ⟨hw, ha⟩
    refine ⟨hw, fun d hd hbd hdx => ?_⟩
    rcases List.mem_append.1 hd with hd | hd
    · exact ha d hd hbd hdx
    · rw [List.mem_singleton.1 hd] at hbd hdx
      have w0 : within_ c.f0 q := by cases q with
        | none => trivial
        | some e => exact ⟨hbd.2.1, by have := hbd.2.2; omega⟩
      have w1 : within_ c.f1 q := by cases q with
        | none => trivial
        | some e => exact ⟨by have := hbd.2.1; omega, hbd.2.2⟩
      have go : ∀ e ∈ l, below_ e q → (e.f0 < c.f0 ∧ c.f0 < e.f1 ∨ e.f0 < c.f1 ∧ c.f1 < e.f1) → False := by
        intro e he hbe hx
        have n1 := h.nc e (List.mem_cons_of_mem _ he) c List.mem_cons_self
        have n2 := h.nc c List.mem_cons_self e (List.mem_cons_of_mem _ he)
        exact ha e he hbe (by omega)
      by_cases i0 : InF l q c.f0
      · by_cases i1 : InF l q c.f1
        · obtain ⟨d, hd, e0, e1, _⟩ := shared hl hq hp hne hco.2.1 i0 i1 h0 h1
          exact hc (ch_ext e0 e1 ▸ hd)
        · obtain ⟨e, he, hbe, hx⟩ := notIn w1 i1
          exact go e he hbe (.inr hx)
      · obtain ⟨e, he, hbe, hx⟩ := notIn w0 i0
        exact go e he hbe (.inl hx)
end
/-- The places of a set: the whole circle's, and each chord's. -/
def ids (l : List Ch) : List (Option Ch) := none :: l.map some
theorem mem_ids {l : List Ch} {q : Option Ch} : q ∈ ids l ↔ ∀ d, q = some d → d ∈ l := by
  unfold ids
  cases q with
  | none => simp
  | some c => simp
theorem ids_nodup {l : List Ch} (h : l.Nodup) : (ids l).Nodup := by
  unfold ids
  rw [List.nodup_cons]
  refine ⟨by simp, ?_⟩
  rw [List.nodup_iff_pairwise_ne, List.pairwise_map]
  exact (List.nodup_iff_pairwise_ne.1 h).imp (fun hab he => hab (Option.some.inj he))
theorem ids_snoc (l : List Ch) (c : Ch) : ids (l ++ [c]) = ids l ++ [some c] := by simp [ids]
theorem hit_iff {n : Int} {l : List Ch} {q : Option Ch} {c : Ch} (hc : 0 ≤ c.f0 ∧ c.f0 < c.f1 ∧ c.f1 < n) : reHit c.f0 c.f1 (face n l q) = true ↔ InF l q c.f0 ∧ InF l q c.f1 := by
  unfold reHit
  rw [Bool.and_eq_true, List.contains_iff_mem, List.contains_iff_mem, mem_face, mem_face]
  constructor
  · rintro ⟨h1, h2⟩; exact ⟨h1.2, h2.2⟩
  · rintro ⟨h1, h2⟩; exact ⟨⟨⟨by omega, by omega⟩, h1⟩, ⟨⟨by omega, by omega⟩, h2⟩⟩
theorem filter_face {n : Int} {l l' : List Ch} {q q' : Option Ch} {p : Int → Bool} (h : ∀ x, InF l' q' x ↔ InF l q x ∧ p x = true) : (face n l q).filter p = face n l' q' := by
  unfold face
  rw [List.filter_filter]
  apply List.filter_congr
  intro x _
  rw [Bool.eq_iff_iff, Bool.and_eq_true, decide_eq_true_iff, decide_eq_true_iff, h x]
  exact And.comm
/-- One step of the reference: the regions of one chord more. -/
theorem step_perm {n : Int} {l : List Ch} {c : Ch} (h : NC n (c :: l)) (hc : c ∉ l) (hnd : l.Nodup) {rs : List (List Int)} (hr : rs.Perm ((ids l).map (face n l))) : (reStep rs c).Perm ((ids (l ++ [c])).map (face n (l ++ [c]))) := by
  have hl : NC n l := h.sub (fun d hd => List.mem_cons_of_mem _ hd)
  have hco := h.ok c List.mem_cons_self
  obtain ⟨p, hp, hb, h0, h1⟩ := home h hc (meas n none) none (fun d hd => by cases hd) (Nat.le_refl _) trivial
  have hpm : p ∈ ids l := mem_ids.2 hp
  have hface : face n l p ∈ rs := hr.mem_iff.2 (List.mem_map.2 ⟨p, hpm, rfl⟩)
  have hhit : reHit c.f0 c.f1 (face n l p) = true := (hit_iff hco).2 ⟨h0, h1⟩
  unfold reStep
  cases hf : rs.findIdx? (reHit c.f0 c.f1) with
  | none =>
    have := List.findIdx?_eq_none_iff.1 hf _ hface
    rw [hhit] at this; cases this
  | some i =>
    obtain ⟨hi, hi2, _⟩ := List.findIdx?_eq_some_iff_getElem.1 hf
    obtain ⟨q, hq, he⟩ := List.mem_map.1 (hr.mem_iff.1 (List.getElem_mem hi))
    have hqp : q = p := by
      refine Classical.byContradiction fun hne => ?_
      rw [← he, hit_iff hco] at hi2
      obtain ⟨d, hd, e0, e1, _⟩ := shared hl (mem_ids.1 hq) hp hne hco.2.1 hi2.1 hi2.2 h0 h1
      exact hc (ch_ext e0 e1 ▸ hd)
    subst hqp
    have hg : rs.getD i [] = face n l q := by rw [List.getD_eq_getElem?_getD, List.getElem?_eq_getElem hi, he]; rfl
    show (rs.take i ++ [reIn c.f0 c.f1 (rs.getD i []), reOut c.f0 c.f1 (rs.getD i [])] ++ rs.drop (i + 1)).Perm _
    rw [hg]
    have e1 : reIn c.f0 c.f1 (face n l q) = face n (l ++ [c]) (some c) := filter_face (fun x => by rw [part_in h hc hp hb h0 h1]; simp)
    have e2 : reOut c.f0 c.f1 (face n l q) = face n (l ++ [c]) q := filter_face (fun x => by rw [part_out h hb]; simp)
    rw [e1, e2]
    have hids := List.perm_cons_erase hpm
    have hrest : (rs.take i ++ rs.drop (i + 1)).Perm (((ids l).erase q).map (face n l)) := by
      have h2 : (face n l q :: (rs.take i ++ rs.drop (i + 1))).Perm rs := by
        have h3 : rs = rs.take i ++ face n l q :: rs.drop (i + 1) := by
          rw [he, List.getElem_cons_drop, List.take_append_drop]
        refine List.perm_middle.symm.trans ?_
        rw [← h3]
      exact List.Perm.cons_inv (h2.trans (hr.trans (hids.map _)))
    have hsame : ((ids l).erase q).map (face n l) = ((ids l).erase q).map (face n (l ++ [c])) := by
      apply List.map_congr_left
      intro q' hq'
      have hm : q' ∈ ids l := List.mem_of_mem_erase hq'
      have hne : q' ≠ q := fun e => by
        rw [e] at hq'
        exact (List.Nodup.not_mem_erase (ids_nodup hnd)) hq'
      unfold face
      apply List.filter_congr
      intro x _
      rw [decide_eq_decide]
      exact (part_other h hc hp hb h0 h1 (mem_ids.1 hm) hne x).symm
    rw [ids_snoc, List.map_append]
    have h5 : ((ids l).map (face n (l ++ [c]))).Perm (face n (l ++ [c]) q :: (rs.take i ++ rs.drop (i + 1))) := by
      refine (hids.map _).trans ?_
      rw [List.map_cons, ← hsame]
      exact List.Perm.cons _ hrest.symm
    refine List.Perm.symm ?_
    refine (List.Perm.append_right _ h5).trans ?_
    refine List.perm_append_comm.trans ?_
    simp only [List.map_cons, List.map_nil, List.cons_append, List.nil_append]
    rw [List.append_assoc]
    exact (List.perm_append_comm_assoc [face n (l ++ [c]) (some c), face n (l ++ [c]) q] (rs.take i) (rs.drop (i + 1)))
theorem steps_perm {n : Int} {l : List Ch} (h : NC n l) (hnd : l.Nodup) : (l.foldl reStep [ints 0 n.toNat]).Perm ((ids l).map (face n l)) := by
  have key : ∀ (l2 l1 : List Ch) (rs : List (List Int)), l1 ++ l2 = l → rs.Perm ((ids l1).map (face n l1)) → (l2.foldl reStep rs).Perm ((ids l).map (face n l)) := by
    intro l2
    induction l2 with
    | nil => intro l1 rs he hr; rw [List.append_nil] at he; subst he; exact hr
    | cons c l2 ih =>
      intro l1 rs he hr
      have hnd2 : (l1 ++ c :: l2).Nodup := he ▸ hnd
      have hnd3 := List.nodup_append.1 hnd2
      have hc : c ∉ l1 := fun hm => hnd3.2.2 c hm c List.mem_cons_self rfl
      have hn : NC n (c :: l1) := h.sub (fun d hd => by
        rw [← he]
        rcases List.mem_cons.1 hd with rfl | hd
        · exact List.mem_append_right _ List.mem_cons_self
        · exact List.mem_append_left _ hd)
      exact ih (l1 ++ [c]) (reStep rs c) (by rw [← he]; simp) (step_perm hn hc hnd3.1 hr)
  refine key l [] _ rfl ?_
  have : face n [] none = ints 0 n.toNat := by
    unfold face
    rw [List.filter_eq_self]
    intro x _
    rw [decide_eq_true_iff]
    exact ⟨trivial, fun d hd => by simp at hd⟩
  simp [ids, this]
end Go.Proofs.Yteeghncofacmhaa.Q
end
section
/- What the program's walk round a region tells: the region's points, its chords, its arcs; regions are not alike; and both ways of ordering them. -/
namespace Go.Proofs.Yteeghncofacmhaa.Q
open Go.RowKit Go.Proofs.YteeghncofacmhaaW.PrintWords Go.Proofs.YteeghncofacmhaaW.PrintLast Go.Proofs.YteeghncofacmhaaW.PrintMore
set_option linter.unusedVariables false
set_option linter.unusedSimpArgs false
theorem nextOf_spec (hi : Int) (ex : Option Ch) (at_ : Int) : ∀ (l : List Ch) (nx : Int),
    (nextOf hi ex at_ l nx = nx ∨ ∃ d ∈ l, d.f0 = at_ ∧ d.f1 ≤ hi ∧ ¬ some d = ex ∧ nextOf hi ex at_ l nx = d.f1) ∧ ∀ d ∈ l, d.f0 = at_ → d.f1 ≤ hi → ¬ some d = ex → d.f1 ≤ nextOf hi ex at_ l nx
  | [], nx => ⟨.inl rfl, fun d hd => by simp at hd⟩
  | e :: l, nx => by
    simp only [nextOf]
    by_cases h : e.f0 = at_ ∧ e.f1 ≤ hi ∧ nx < e.f1 ∧ ¬ some e = ex
    · rw [if_pos h]
      obtain ⟨h1, h2⟩ := nextOf_spec hi ex at_ l e.f1
      refine ⟨.inr ?_, fun d hd => ?_⟩
      · rcases h1 with h1 | ⟨d, hd, e1, e2, e3, e4⟩
        · exact ⟨e, List.mem_cons_self, h.1, h.2.1, h.2.2.2, h1⟩
        · exact ⟨d, List.mem_cons_of_mem _ hd, e1, e2, e3, e4⟩
      · rcases List.mem_cons.1 hd with rfl | hd
        · intro _ _ _; exact nextOf_ge hi ex at_ l _
        · exact h2 d hd
    · rw [if_neg h]
      obtain ⟨h1, h2⟩ := nextOf_spec hi ex at_ l nx
      refine ⟨?_, fun d hd => ?_⟩
      · rcases h1 with h1 | ⟨d, hd, e1⟩
        · exact .inl h1
        · exact .inr ⟨d, List.mem_cons_of_mem _ hd, e1⟩
      · rcases List.mem_cons.1 hd with rfl | hd
        · intro e1 e2 e3
          have : ¬ nx < d.f1 := fun e4 => h ⟨e1, e2, e4, e3⟩
          exact Int.le_trans (by omega) (nextOf_ge hi ex at_ l nx)
        · exact h2 d hd
def hiOf (n : Int) : Option Ch → Int
  | none => n - 1
  | some c => c.f1
def loOf : Option Ch → Int
  | none => 0
  | some c => c.f0
section
variable {n : Int} {l : List Ch} {q : Option Ch}
theorem cand_iff (h : NC n l) {d : Ch} (hd : d ∈ l) {a : Int} (ha : d.f0 = a) (hlo : loOf q ≤ a) : (d.f1 ≤ hiOf n q ∧ ¬ some d = q) ↔ below_ d q := by
  have := h.ok d hd
  cases q with
  | none => simp only [hiOf, below_]; constructor
            · intro _; trivial
            · intro _; exact ⟨by omega, by simp⟩
  | some c =>
    have hlo' : c.f0 ≤ a := hlo
    simp only [hiOf, below_]
    constructor
    · rintro ⟨h1, h2⟩; exact ⟨fun e => h2 (by rw [e]), by omega, h1⟩
    · rintro ⟨h1, h2, h3⟩; exact ⟨h3, fun e => h1 (Option.some.inj e)⟩
theorem lo_of_in (h : NC n l) (hq : ∀ d, q = some d → d ∈ l) {x : Int} (hx : InF l q x) (h0 : 0 ≤ x) : loOf q ≤ x := by
  cases q with
  | none => exact h0
  | some c => exact hx.1.1
/-- A chord leads on: to the next point of the region. -/
theorem jump (h : NC n l) (hq : ∀ d, q = some d → d ∈ l) {a : Int} (h0 : 0 ≤ a) (ha : InF l q a) (hg : nextOf (hiOf n q) q a l a > a) :
    (⟨a, nextOf (hiOf n q) q a l a⟩ : Ch) ∈ l ∧ below_ ⟨a, nextOf (hiOf n q) q a l a⟩ q ∧ InF l q (nextOf (hiOf n q) q a l a) ∧ ∀ x, a < x → x < nextOf (hiOf n q) q a l a → ¬ InF l q x := by
  obtain ⟨h1, h2⟩ := nextOf_spec (hiOf n q) q a l a
  rcases h1 with h1 | ⟨d, hd, e1, e2, e3, e4⟩
  · omega
  · have hlo := lo_of_in h hq ha h0
    have hbd : below_ d q := (cand_iff h hd e1 hlo).1 ⟨e2, e3⟩
    have hde : d = ⟨a, nextOf (hiOf n q) q a l a⟩ := ch_ext e1 e4.symm
    rw [e4] at h2 ⊢
    have hde' : d = ⟨a, d.f1⟩ := ch_ext e1 rfl
    refine ⟨hde' ▸ hd, hde' ▸ hbd, ⟨?_, fun e he hbe hx => ?_⟩, fun x hx1 hx2 hin => hin.2 d hd hbd ⟨by omega, by omega⟩⟩
    · cases q with
      | none => trivial
      | some c => have hb' : d ≠ c ∧ c.f0 ≤ d.f0 ∧ d.f1 ≤ c.f1 := hbd
                  have := h.ok d hd
                  exact ⟨by omega, hb'.2.2⟩
    · have n1 := h.nc d hd e he
      have n2 := h.nc e he d hd
      have e5 := ha.2 e he hbe
      have hde := h.ok d hd
      have hee := h.ok e he
      by_cases e6 : e.f0 = a
      · have := h2 e he e6 ((cand_iff h he e6 hlo).2 hbe).1 ((cand_iff h he e6 hlo).2 hbe).2
        omega
      · omega
/-- No chord leads on: the next point of the circle is the region's. -/
theorem stride (h : NC n l) (hq : ∀ d, q = some d → d ∈ l) {a : Int} (h0 : 0 ≤ a) (ha : InF l q a) (hlt : a < hiOf n q) (hg : ¬ nextOf (hiOf n q) q a l a > a) :
    InF l q (a + 1) ∧ ∀ d ∈ l, below_ d q → d.f0 ≠ a := by
  obtain ⟨h1, h2⟩ := nextOf_spec (hiOf n q) q a l a
  have hlo := lo_of_in h hq ha h0
  have hno : ∀ d ∈ l, below_ d q → d.f0 ≠ a := by
    intro d hd hbd e1
    have := h2 d hd e1 ((cand_iff h hd e1 hlo).2 hbd).1 ((cand_iff h hd e1 hlo).2 hbd).2
    have := h.ok d hd
    omega
  refine ⟨⟨?_, fun d hd hbd hx => ?_⟩, hno⟩
  · cases q with
    | none => trivial
    | some c => have : c.f0 ≤ a := hlo
                have : a < c.f1 := hlt
                exact ⟨by omega, by omega⟩
  · have := ha.2 d hd hbd
    have := hno d hd hbd
    omega
theorem fw_all (h : NC n l) (hq : ∀ d, q = some d → d ∈ l) : ∀ (m : Nat) (a : Int), 0 ≤ a → InF l q a → (hiOf n q - a).toNat ≤ m →
    (fw l (hiOf n q) q m a).1 = (ints (a + 1) (hiOf n q - a).toNat).filter (fun x => decide (InF l q x)) ∧
    (∀ ch, ch ∈ (fw l (hiOf n q) q m a).2.1 ↔ ch ∈ l ∧ below_ ch q ∧ InF l q ch.f0 ∧ InF l q ch.f1 ∧ a ≤ ch.f0) ∧
    (∀ i, i ∈ (fw l (hiOf n q) q m a).2.2 ↔ a ≤ i ∧ i < hiOf n q ∧ InF l q i ∧ ∀ d ∈ l, below_ d q → d.f0 ≠ i) := by
  have noCh : ∀ (a : Int), 0 ≤ a → InF l q a → ¬ a < hiOf n q → ∀ ch : Ch, ¬ (ch ∈ l ∧ below_ ch q ∧ InF l q ch.f0 ∧ InF l q ch.f1 ∧ a ≤ ch.f0) := by
    rintro a h0 ha hlt ch ⟨h1, h2, h3, h4, h5⟩
    have := h.ok ch h1
    have := ((cand_iff h h1 rfl (lo_of_in h hq h3 (by omega))).2 h2).1
    omega
  intro m
  induction m with
  | zero =>
    intro a h0 ha hm
    have e0 : (hiOf n q - a).toNat = 0 := by omega
    rw [e0]
    refine ⟨rfl, fun ch => ⟨fun hc => by simp [fw] at hc, fun hc => absurd hc (noCh a h0 ha (by omega) ch)⟩, fun i => ⟨fun hc => by simp [fw] at hc, fun hc => by omega⟩⟩
  | succ m ih =>
    intro a h0 ha hm
    by_cases hlt : a < hiOf n q
    · simp only [fw]
      rw [if_pos hlt]
      by_cases hg : nextOf (hiOf n q) q a l a > a
      · rw [if_pos hg]
        obtain ⟨j1, j2, j3, j4⟩ := jump h hq h0 ha hg
        have hle := nextOf_le (hiOf n q) q a l a (Int.le_of_lt hlt)
        generalize nextOf (hiOf n q) q a l a = nx at hg j1 j2 j3 j4 hle ⊢
        obtain ⟨i1, i2, i3⟩ := ih nx (by omega) j3 (by omega)
        refine ⟨?_, fun ch => ?_, fun i => ?_⟩
        · show nx :: (fw l (hiOf n q) q m nx).1 = _
          rw [i1, show (hiOf n q - a).toNat = (nx - a - 1).toNat + ((hiOf n q - nx).toNat + 1) by omega, ints_append, List.filter_append, show a + 1 + ((nx - a - 1).toNat : Int) = nx by omega, ints_succ, List.filter_cons, if_pos (by simpa using j3)]
          have hnil : (ints (a + 1) (nx - a - 1).toNat).filter (fun x => decide (InF l q x)) = [] := List.filter_eq_nil_iff.2 (fun x hx => by
            have := mem_ints.1 hx
            simpa using j4 x (by omega) (by omega))
          rw [hnil, List.nil_append]
        · show ch ∈ (⟨a, nx⟩ : Ch) :: (fw l (hiOf n q) q m nx).2.1 ↔ _
          rw [List.mem_cons, i2]
          constructor
          · rintro (rfl | ⟨h1, h2, h3, h4, h5⟩)
            · exact ⟨j1, j2, ha, j3, Int.le_refl _⟩
            · exact ⟨h1, h2, h3, h4, by omega⟩
          · rintro ⟨h1, h2, h3, h4, h5⟩
            have hok := h.ok ch h1
            by_cases e : ch.f0 = a
            · left
              have e1 : ¬ ch.f1 < nx := fun hl => j4 ch.f1 (by omega) hl h4
              have e2 : ¬ nx < ch.f1 := fun hl => j3.2 ch h1 h2 ⟨by omega, hl⟩
              exact ch_ext e (by show ch.f1 = nx; omega)
            · right
              have e1 : ¬ ch.f0 < nx := fun hl => j4 ch.f0 (by omega) hl h3
              exact ⟨h1, h2, h3, h4, by omega⟩
        · show i ∈ (fw l (hiOf n q) q m nx).2.2 ↔ _
          rw [i3]
          constructor
          · rintro ⟨h1, h2, h3, h4⟩; exact ⟨by omega, h2, h3, h4⟩
          · rintro ⟨h1, h2, h3, h4⟩
            have e0 : i ≠ a := fun e => h4 ⟨a, nx⟩ j1 j2 e.symm
            have e1 : ¬ i < nx := fun hl => j4 i (by omega) hl h3
            exact ⟨by omega, h2, h3, h4⟩
      · rw [if_neg hg]
        obtain ⟨j1, j2⟩ := stride h hq h0 ha hlt hg
        obtain ⟨i1, i2, i3⟩ := ih (a + 1) (by omega) j1 (by omega)
        refine ⟨?_, fun ch => ?_, fun i => ?_⟩
        · show (a + 1) :: (fw l (hiOf n q) q m (a + 1)).1 = _
          rw [i1, show (hiOf n q - a).toNat = (hiOf n q - (a + 1)).toNat + 1 by omega, ints_succ, List.filter_cons, if_pos (by simpa using j1)]
        · show ch ∈ (fw l (hiOf n q) q m (a + 1)).2.1 ↔ _
          rw [i2]
          constructor
          · rintro ⟨h1, h2, h3, h4, h5⟩; exact ⟨h1, h2, h3, h4, by omega⟩
          · rintro ⟨h1, h2, h3, h4, h5⟩
            have := j2 ch h1 h2
            exact ⟨h1, h2, h3, h4, by omega⟩
        · show i ∈ a :: (fw l (hiOf n q) q m (a + 1)).2.2 ↔ _
          rw [List.mem_cons, i3]
          constructor
          · rintro (rfl | ⟨h1, h2, h3, h4⟩)
            · exact ⟨Int.le_refl _, hlt, ha, j2⟩
            · exact ⟨by omega, h2, h3, h4⟩
          · rintro ⟨h1, h2, h3, h4⟩
            by_cases e : i = a
            · exact .inl e
            · exact .inr ⟨by omega, h2, h3, h4⟩
    · simp only [fw]
      rw [if_neg hlt]
      have e0 : (hiOf n q - a).toNat = 0 := by omega
      rw [e0]
      refine ⟨rfl, fun ch => ⟨fun hc => by simp at hc, fun hc => absurd hc (noCh a h0 ha hlt ch)⟩, fun i => ⟨fun hc => by simp at hc, fun hc => by omega⟩⟩
theorem lo_in (h : NC n l) (hn : 0 < n) (hq : ∀ d, q = some d → d ∈ l) : 0 ≤ loOf q ∧ loOf q ≤ hiOf n q ∧ hiOf n q < n ∧ InF l q (loOf q) ∧ InF l q (hiOf n q) := by
  cases q with
  | none => exact ⟨Int.le_refl _, by simp only [loOf, hiOf]; omega, by simp only [hiOf]; omega, ⟨trivial, fun d hd _ hx => by have := h.ok d hd; simp only [loOf] at hx; omega⟩, ⟨trivial, fun d hd _ hx => by have := h.ok d hd; simp only [hiOf] at hx; omega⟩⟩
  | some c =>
    have hc := h.ok c (hq c rfl)
    exact ⟨hc.1, by simp only [loOf, hiOf]; omega, by simp only [hiOf]; omega, ⟨⟨Int.le_refl _, by simp only [loOf]; omega⟩, fun d hd hb hx => by have := hb.2.1; simp only [loOf] at hx; omega⟩, ⟨⟨by simp only [hiOf]; omega, Int.le_refl _⟩, fun d hd hb hx => by have := hb.2.2; simp only [hiOf] at hx; omega⟩⟩
theorem face_eq (h : NC n l) (hn : 0 < n) (hq : ∀ d, q = some d → d ∈ l) : face n l q = loOf q :: (ints (loOf q + 1) (hiOf n q - loOf q).toNat).filter (fun x => decide (InF l q x)) := by
  obtain ⟨h0, h1, h2, h3, h4⟩ := lo_in h hn hq
  unfold face
  rw [show n.toNat = (loOf q).toNat + ((hiOf n q - loOf q).toNat + 1 + (n - 1 - hiOf n q).toNat) by omega, ints_append, ints_append, List.filter_append, List.filter_append, show (0 : Int) + ((loOf q).toNat : Int) = loOf q by omega, ints_succ, List.filter_cons, if_pos (by simpa using h3)]
  have hn1 : (ints 0 (loOf q).toNat).filter (fun x => decide (InF l q x)) = [] := List.filter_eq_nil_iff.2 (fun x hx => by
    have := mem_ints.1 hx
    simp only [decide_eq_true_iff]
    intro hin
    cases q with
    | none => simp only [loOf] at this; omega
    | some c => have := hin.1.1; simp only [loOf] at *; omega)
  have hn2 : (ints (loOf q + (((hiOf n q - loOf q).toNat + 1 : Nat) : Int)) (n - 1 - hiOf n q).toNat).filter (fun x => decide (InF l q x)) = [] := List.filter_eq_nil_iff.2 (fun x hx => by
    have := mem_ints.1 hx
    simp only [decide_eq_true_iff]
    intro hin
    cases q with
    | none => simp only [hiOf, loOf] at *; omega
    | some c => have := hin.1.2; simp only [hiOf, loOf] at *; omega)
  rw [hn1, hn2, List.nil_append, List.append_nil]
end
/-- The region at a place, as_ the program tells it. -/
def regOf (n : Int) (l : List Ch) : Option Ch → List Int × List Ch × List Int
  | none => regionOf l ⟨0, n - 1⟩ false
  | some c => regionOf l c true
section
variable {n : Int} {l : List Ch} {q : Option Ch}
theorem regOf_eq (n : Int) (l : List Ch) (q : Option Ch) : regOf n l q = (loOf q :: (fw l (hiOf n q) q (hiOf n q - loOf q).toNat (loOf q)).1, (match q with | none => [] | some c => [c]) ++ (fw l (hiOf n q) q (hiOf n q - loOf q).toNat (loOf q)).2.1, (match q with | none => [n - 1] | some _ => []) ++ (fw l (hiOf n q) q (hiOf n q - loOf q).toNat (loOf q)).2.2) := by
  cases q <;> rfl
theorem reg_points (h : NC n l) (hn : 0 < n) (hq : ∀ d, q = some d → d ∈ l) : (regOf n l q).1 = face n l q := by
  obtain ⟨h0, h1, h2, h3, h4⟩ := lo_in h hn hq
  rw [regOf_eq, face_eq h hn hq]
  show loOf q :: _ = _
  rw [(fw_all h hq _ (loOf q) h0 h3 (Nat.le_refl _)).1]
theorem reg_chords (h : NC n l) (hn : 0 < n) (hq : ∀ d, q = some d → d ∈ l) (ch : Ch) : ch ∈ (regOf n l q).2.1 ↔ q = some ch ∨ (ch ∈ l ∧ below_ ch q ∧ InF l q ch.f0 ∧ InF l q ch.f1) := by
  obtain ⟨h0, h1, h2, h3, h4⟩ := lo_in h hn hq
  rw [regOf_eq]
  show ch ∈ _ ++ _ ↔ _
  rw [List.mem_append, (fw_all h hq _ (loOf q) h0 h3 (Nat.le_refl _)).2.1 ch]
  constructor
  · rintro (h5 | ⟨h5, h6, h7, h8, h9⟩)
    · cases q with
      | none => simp at h5
      | some c => left; rw [List.mem_singleton] at h5; rw [h5]
    · exact .inr ⟨h5, h6, h7, h8⟩
  · rintro (h5 | ⟨h5, h6, h7, h8⟩)
    · left; subst h5; exact List.mem_singleton.2 rfl
    · right; exact ⟨h5, h6, h7, h8, lo_of_in h hq h7 (h.ok ch h5).1⟩
/-- A region has a third point, but for one that lies between a chord and an arc. -/
theorem third (h : NC n l) (hn : 3 ≤ n) {c : Ch} (hc : c ∈ l) (hw : c.f1 - c.f0 > 1) : ∃ x, c.f0 < x ∧ x < c.f1 ∧ InF l (some c) x := by
  have hq : ∀ d, some c = some d → d ∈ l := fun d e => Option.some.inj e ▸ hc
  obtain ⟨h0, h1, h2, h3, h4⟩ := lo_in (q := some c) h (by omega) hq
  by_cases hg : nextOf (hiOf n (some c)) (some c) (loOf (some c)) l (loOf (some c)) > loOf (some c)
  · obtain ⟨j1, j2, j3, j4⟩ := jump h hq h0 h3 hg
    refine ⟨_, hg, ?_, j3⟩
    have hle := nextOf_le (hiOf n (some c)) (some c) (loOf (some c)) l (loOf (some c)) h1
    have hne : ¬ nextOf (hiOf n (some c)) (some c) (loOf (some c)) l (loOf (some c)) = c.f1 := fun e => j2.1 (ch_ext rfl e)
    have : hiOf n (some c) = c.f1 := rfl
    omega
  · obtain ⟨j1, _⟩ := stride h hq h0 h3 (by simp only [loOf, hiOf]; omega) hg
    exact ⟨c.f0 + 1, by omega, by omega, j1⟩
/-- No two regions have the same points. -/
theorem face_inj (h : NC n l) (hn : 3 ≤ n) {q' : Option Ch} (hq : ∀ d, q = some d → d ∈ l) (hq' : ∀ d, q' = some d → d ∈ l) (he : face n l q = face n l q') : q = q' := by
  refine Classical.byContradiction fun hne => ?_
  have hiff : ∀ x, 0 ≤ x → x < n → (InF l q x ↔ InF l q' x) := fun x h0 h1 => by
    have h2 := @mem_face n l q x
    have h3 := @mem_face n l q' x
    rw [he] at h2
    constructor
    · intro hx; exact (h3.1 (h2.2 ⟨⟨h0, h1⟩, hx⟩)).2
    · intro hx; exact (h2.1 (h3.2 ⟨⟨h0, h1⟩, hx⟩)).2
  have key : ∀ (c : Ch) (p : Option Ch), c ∈ l → (∀ d, p = some d → d ∈ l) → below_ c p → (∀ x, 0 ≤ x → x < n → (InF l (some c) x ↔ InF l p x)) → False := by
    intro c p hc hp hb hi
    obtain ⟨a0, a1, a2, a3, a4⟩ := lo_in (q := p) h (by omega) hp
    have hco := h.ok c hc
    have hcm : ∀ d, some c = some d → d ∈ l := fun d e => Option.some.inj e ▸ hc
    have b3 := (hi _ a0 (by omega)).2 a3
    have b4 := (hi _ (by omega) a2).2 a4
    have w3 : c.f0 ≤ loOf p ∧ loOf p ≤ c.f1 := b3.1
    have w4 : c.f0 ≤ hiOf n p ∧ hiOf n p ≤ c.f1 := b4.1
    have e3 := a3.2 c hc hb
    have e4 := a4.2 c hc hb
    cases p with
    | none =>
      simp only [loOf, hiOf] at *
      obtain ⟨x, x1, x2, x3⟩ := third h hn hc (by omega)
      exact ((hi x (by omega) (by omega)).1 x3).2 c hc trivial ⟨x1, x2⟩
    | some d =>
      have hd := h.ok d (hp d rfl)
      have hb' : c ≠ d ∧ d.f0 ≤ c.f0 ∧ c.f1 ≤ d.f1 := hb
      simp only [loOf, hiOf] at *
      exact hb'.1 (ch_ext (by omega) (by omega))
  obtain ⟨a0, a1, a2, a3, a4⟩ := lo_in (q := q) h (by omega) hq
  have hlt : loOf q < hiOf n q := by
    cases q with
    | none => simp only [loOf, hiOf]; omega
    | some c => have := h.ok c (hq c rfl); simp only [loOf, hiOf]; omega
  obtain ⟨c, hc, e0, e1, hor⟩ := shared h hq hq' hne hlt a3 a4 ((hiff _ a0 (by omega)).1 a3) ((hiff _ (by omega) a2).1 a4)
  rcases hor with ⟨rfl, hb⟩ | ⟨rfl, hb⟩
  · exact key c q' hc hq' hb hiff
  · exact key c q hc hq hb (fun x h0 h1 => (hiff x h0 h1).symm)
end
/-! ### both orders -/
def lexLe (a b : List Int) : Bool := !lexLt b a
theorem lexLt_irrefl : ∀ a : List Int, lexLt a a = false
  | [] => rfl
  | x :: a => by simp [lexLt, lexLt_irrefl a]
theorem lexLt_asymm : ∀ a b : List Int, lexLt a b = true → lexLt b a = false
  | [], [] => by simp [lexLt]
  | [], _ :: _ => by simp [lexLt]
  | _ :: _, [] => by simp [lexLt]
  | x :: a, y :: b => by
    simp only [lexLt]
    by_cases e : x = y
    · subst e; simpa using lexLt_asymm a b
    · rw [if_neg e, if_neg (fun h => e h.symm)]; simp; omega
theorem lexLt_total : ∀ a b : List Int, lexLt a b = false → lexLt b a = false → a = b
  | [], [] => fun _ _ => rfl
  | [], _ :: _ => by simp [lexLt]
  | _ :: _, [] => by simp [lexLt]
  | x :: a, y :: b => by
    simp only [lexLt]
    by_cases e : x = y
    · subst e
      simp only [if_true]
      intro h1 h2; rw [lexLt_total a b h1 h2]
    · rw [if_neg e, if_neg (fun h => e h.symm)]; simp; omega
theorem lexLt_trans : ∀ a b c : List Int, lexLt a b = true → lexLt b c = true → lexLt a c = true
  | [], [], _ => by simp [lexLt]
  | [], _ :: _, [] => by simp [lexLt]
  | [], _ :: _, _ :: _ => by simp [lexLt]
  | _ :: _, [], _ => by simp [lexLt]
  | _ :: _, _ :: _, [] => by simp [lexLt]
  | x :: a, y :: b, z :: c => by
    simp only [lexLt]
    by_cases e1 : x = y
    · subst e1
      by_cases e2 : x = z
      · subst e2; simpa using lexLt_trans a b c
      · simp only [if_true, if_neg e2]
        intro _ h2; exact h2
    · by_cases e2 : y = z
      · subst e2
        simp only [if_true, if_neg e1]
        intro h1 _; exact h1
      · rw [if_neg e1, if_neg e2]
        simp only [decide_eq_true_iff]
        intro h1 h2
        rw [if_neg (by omega)]
        simp; omega
theorem lexLe_trans (a b c : List Int) (h1 : lexLe a b = true) (h2 : lexLe b c = true) : lexLe a c = true := by
  unfold lexLe at *
  simp only [Bool.not_eq_true'] at *
  cases hca : lexLt c a with
  | false => rfl
  | true =>
    cases hab : lexLt a b with
    | true => rw [lexLt_trans c a b hca hab] at h2; cases h2
    | false => rw [lexLt_total a b hab h1, h2] at hca; cases hca
theorem lexLe_total (a b : List Int) : (lexLe a b || lexLe b a) = true := by
  unfold lexLe
  cases h : lexLt b a with
  | false => rfl
  | true => rw [lexLt_asymm b a h]; rfl
theorem lexLe_antisymm (a b : List Int) (h1 : lexLe a b = true) (h2 : lexLe b a = true) : a = b := by
  unfold lexLe at *
  simp only [Bool.not_eq_true'] at *
  exact lexLt_total a b h2 h1
theorem rePos_le (r : List Int) (out : List (List Int)) : rePos r out ≤ out.length := by unfold rePos; omega
theorem rePut_perm (out : List (List Int)) (r : List Int) : (rePut out r).Perm (r :: out) := by
  unfold rePut
  rw [show out.take (rePos r out) ++ [r] ++ out.drop (rePos r out) = out.take (rePos r out) ++ r :: out.drop (rePos r out) by simp]
  refine List.perm_middle.trans ?_
  rw [List.take_append_drop]
theorem rePut_sorted {out : List (List Int)} (h : out.Pairwise fun a b => lexLe a b = true) (r : List Int) : (rePut out r).Pairwise fun a b => lexLe a b = true := by
  -- what stands behind the place is greater, what stands ahead of it is not
  have h1 : out = out.take (rePos r out) ++ out.drop (rePos r out) := (List.take_append_drop _ _).symm
  have hdrop : ∀ x ∈ out.drop (rePos r out), lexLt r x = true := by
    intro x hx
    have : out.drop (rePos r out) = (out.reverse.takeWhile (fun q => lexLt r q)).reverse := by
      have h2 := List.takeWhile_append_dropWhile (p := fun q => lexLt r q) (l := out.reverse)
      have h3 : out = (out.reverse.dropWhile (fun q => lexLt r q)).reverse ++ (out.reverse.takeWhile (fun q => lexLt r q)).reverse := by
        rw [← List.reverse_append, h2, List.reverse_reverse]
      have h4 : (out.reverse.dropWhile (fun q => lexLt r q)).reverse.length = rePos r out := by
        have := congrArg List.length h3
        rw [List.length_append, List.length_reverse, List.length_reverse] at this
        rw [List.length_reverse]; unfold rePos; omega
      rw [← h4]
      generalize (out.reverse.dropWhile (fun q => lexLt r q)).reverse = X at h3 ⊢
      generalize (out.reverse.takeWhile (fun q => lexLt r q)).reverse = Y at h3 ⊢
      rw [h3, List.drop_append_of_le_length (Nat.le_refl _), List.drop_length, List.nil_append]
    rw [this, List.mem_reverse] at hx
    exact List.all_eq_true.1 (List.all_takeWhile (p := fun q => lexLt r q) (l := out.reverse)) x hx
  have htake : ∀ x ∈ out.take (rePos r out), lexLe x r = true := by
    intro x hx
    rcases Nat.eq_zero_or_pos (rePos r out) with h0 | h0
    · rw [h0] at hx; simp at hx
    · -- the last one ahead is not greater
      have hpl := rePos_le r out
      obtain ⟨s, hs⟩ : ∃ s, rePos r out = s + 1 := ⟨rePos r out - 1, by omega⟩
      have hsl : s < out.length := by omega
      have hlast : lexLt r out[s] = false := by
        have h2 := List.takeWhile_append_dropWhile (p := fun q => lexLt r q) (l := out.reverse)
        have h4 : (out.reverse.dropWhile (fun q => lexLt r q)).length = s + 1 := by
          have := congrArg List.length h2
          rw [List.length_append, List.length_reverse] at this
          rw [← hs]; unfold rePos; omega
        have h5 : out.reverse.dropWhile (fun q => lexLt r q) ≠ [] := fun e => by rw [e] at h4; simp at h4
        have h6 := List.head_dropWhile_not (fun q => lexLt r q) h5
        have h7 : (out.reverse.dropWhile (fun q => lexLt r q)).head h5 = out[s] := by
          have h8 : out = (out.reverse.dropWhile (fun q => lexLt r q)).reverse ++ (out.reverse.takeWhile (fun q => lexLt r q)).reverse := by
            rw [← List.reverse_append, h2, List.reverse_reverse]
          have h9 : out[s]? = (out.reverse.dropWhile (fun q => lexLt r q))[0]? := by
            generalize hX : out.reverse.dropWhile (fun q => lexLt r q) = X at h8 h4 ⊢
            generalize (out.reverse.takeWhile (fun q => lexLt r q)).reverse = Y at h8
            rw [h8, List.getElem?_append_left (by rw [List.length_reverse]; omega), List.getElem?_reverse (by omega)]
            congr 1; omega
          rw [List.getElem?_eq_getElem hsl, ← List.head?_eq_getElem?, List.head?_eq_some_head h5] at h9
          exact (Option.some.inj h9).symm
        rw [h7] at h6; simpa using h6
      rw [hs, List.take_succ_eq_append_getElem hsl] at hx
      have hle : lexLe out[s] r = true := by unfold lexLe; rw [hlast]; rfl
      rcases List.mem_append.1 hx with hx | hx
      · obtain ⟨j, hj, rfl⟩ := List.mem_iff_getElem.1 hx
        rw [List.length_take] at hj
        rw [List.getElem_take]
        exact lexLe_trans _ _ _ (List.pairwise_iff_getElem.1 h j s (by omega) hsl (by omega)) hle
      · rw [List.mem_singleton.1 hx]; exact hle
  unfold rePut
  rw [List.append_assoc, List.pairwise_append]
  refine ⟨h.sublist (List.take_sublist _ _), List.pairwise_cons.2 ⟨fun x hx => by unfold lexLe; rw [lexLt_asymm _ _ (hdrop x hx)]; rfl, h.sublist (List.drop_sublist _ _)⟩, fun x hx y hy => ?_⟩
  rcases List.mem_cons.1 hy with rfl | hy
  · exact htake x hx
  · exact lexLe_trans _ _ _ (htake x hx) (by unfold lexLe; rw [lexLt_asymm _ _ (hdrop y hy)]; rfl)
theorem rePuts {rs : List (List Int)} : ∀ {out : List (List Int)}, (out.Pairwise fun a b => lexLe a b = true) → (rs.foldl rePut out).Perm (rs ++ out) ∧ (rs.foldl rePut out).Pairwise fun a b => lexLe a b = true := by
  induction rs with
  | nil => exact fun h => ⟨List.Perm.refl _, h⟩
  | cons r rs ih =>
    intro out h
    obtain ⟨h1, h2⟩ := ih (rePut_sorted h r)
    refine ⟨h1.trans ?_, h2⟩
    refine (List.Perm.append_left rs (rePut_perm out r)).trans ?_
    rw [List.cons_append]
    exact List.perm_middle
/-- The regions of a plane set, in order: both sides'. -/
def faces (n : Int) (l : List Ch) : List (List Int) := ((ids l).map (face n l)).mergeSort lexLe
theorem reRegions_eq {n : Int} {l : List Ch} (h : NC n l) (hnd : l.Nodup) : reRegions n.toNat l = faces n l := by
  unfold reRegions faces
  rw [← ints_zero]
  obtain ⟨h1, h2⟩ := rePuts (rs := l.foldl reStep [ints 0 n.toNat]) (out := []) .nil
  rw [List.append_nil] at h1
  refine List.Perm.eq_of_pairwise (le := fun a b => lexLe a b = true) (fun a b _ _ => lexLe_antisymm a b) h2 (List.pairwise_mergeSort lexLe_trans lexLe_total _) ?_
  exact (h1.trans (steps_perm h hnd)).trans (List.mergeSort_perm _ _).symm
theorem chk_sorted {n : Int} : ∀ {l : List Ch} {p : Option Ch}, chk n p l = true → (∀ c ∈ l, ∀ d, p = some d → chLt d c = true) ∧ l.Pairwise fun c d => chLt c d = true
  | [], _, _ => ⟨fun c hc => by simp at hc, .nil⟩
  | c :: l, p, h => by
    simp only [chk, Bool.and_eq_true] at h
    obtain ⟨h1, h2⟩ := chk_sorted h.2
    have tr : ∀ a b c : Ch, chLt a b = true → chLt b c = true → chLt a c = true := by
      intro a b c; unfold chLt; simp only [decide_eq_true_iff]; omega
    refine ⟨fun d hd e he => ?_, List.pairwise_cons.2 ⟨fun d hd => h1 d hd c rfl, h2⟩⟩
    subst he
    have h3 : chLt e c = true := h.1.2
    rcases List.mem_cons.1 hd with rfl | hd
    · exact h3
    · exact tr e c d h3 (h1 d hd c rfl)
theorem good_sorted {n : Int} {l : List Ch} (h : goodSet n l = true) : l.Pairwise fun c d => chLt c d = true := by
  unfold goodSet at h; simp only [Bool.and_eq_true] at h; exact (chk_sorted h.1.2).2
theorem chLt_irrefl (c : Ch) : chLt c c = false := by unfold chLt; simp
theorem good_nodup {n : Int} {l : List Ch} (h : goodSet n l = true) : l.Nodup := by
  rw [List.nodup_iff_pairwise_ne]
  exact (good_sorted h).imp (fun {a b} hab e => by subst e; rw [chLt_irrefl] at hab; cases hab)
theorem cnt_zero : ∀ {l : List Ch}, cntPairs l = 0 → l.Pairwise fun c d => crossP c d = false
  | [], _ => .nil
  | c :: l, h => by
    simp only [cntPairs] at h
    refine List.pairwise_cons.2 ⟨fun d hd => ?_, cnt_zero (by omega)⟩
    have := List.countP_eq_zero.1 (show l.countP (crossP c) = 0 by omega) d hd
    simpa using this
theorem plane_nc {n : Int} {l : List Ch} (h : plane n l = true) : NC n l := by
  unfold plane at h
  rw [Bool.and_eq_true, decide_eq_true_iff] at h
  refine ⟨good_ok h.1, fun c hc d hd hx => ?_⟩
  have h1 := cnt_zero h.2
  have h2 : crossP c d = true := by unfold crossP; rw [decide_eq_true_iff]; exact .inl hx
  obtain ⟨i, hi, rfl⟩ := List.mem_iff_getElem.1 hc
  obtain ⟨j, hj, rfl⟩ := List.mem_iff_getElem.1 hd
  rcases Nat.lt_trichotomy i j with h3 | h3 | h3
  · rw [List.pairwise_iff_getElem.1 h1 i j hi hj h3] at h2; cases h2
  · subst h3; omega
  · rw [crossP_comm, List.pairwise_iff_getElem.1 h1 j i hj hi h3] at h2; cases h2
theorem plane_good {n : Int} {l : List Ch} (h : plane n l = true) : goodSet n l = true := by unfold plane at h; rw [Bool.and_eq_true] at h; exact h.1
end Go.Proofs.Yteeghncofacmhaa.Q
end
section
/- A row of structs that the call itself has made, told by its elements: the cells, the blocks (an interval) and the value of each; and what a sort makes of such a row. No program is walked here. -/
namespace Go.Proofs.Yteeghncofacmhaa.Q
open Go.RowKit Go.Proofs.YteeghncofacmhaaW.PrintWords Go.Proofs.YteeghncofacmhaaW.PrintLast Go.Proofs.YteeghncofacmhaaW.PrintMore Go.Sort
set_option linter.unusedVariables false
set_option linter.unusedSimpArgs false
structure RG (α : Type) where
  v : List Value
  lo : Nat
  hi : Nat
  x : α
def RgP {α : Type} (d : Kd α) (W : World) (B : Nat) (ps : List (RG α)) : Prop :=
  (∀ p ∈ ps, B ≤ p.lo ∧ p.hi ≤ W.heap.size ∧ d.M W B (fun k => p.lo ≤ k ∧ k < p.hi) p.x p.v) ∧ ps.Pairwise (fun p q => p.hi ≤ q.lo ∨ q.hi ≤ p.lo)
def RgO {α : Type} (sz e : Nat) (W : World) (B : Nat) (v : Value) (ps : List (RG α)) : Prop := (Kd.raw sz).R e W B (fun _ => True) v (ps.map RG.v)
section
variable {α : Type} {d : Kd α} {W W1 : World} {B sz e : Nat} {v : Value} {ps qs : List (RG α)}
theorem RgP.nil (d : Kd α) (W : World) (B : Nat) : RgP d W B [] := ⟨fun _ h => by simp at h, .nil⟩
theorem RgP.below (h : RgP d W B ps) (hb : Below W.heap.size W W1) : RgP d W1 B ps :=
  ⟨fun p hp => ⟨(h.1 p hp).1, Nat.le_trans (h.1 p hp).2.1 hb.size, Kd.M_below (h.1 p hp).2.2 hb⟩, h.2⟩
theorem RgP.perm (h : RgP d W B ps) (hp : ps.Perm qs) : RgP d W B qs :=
  ⟨fun p hq => h.1 p (hp.mem_iff.2 hq), (hp.pairwise_iff (fun {a b} hab => hab.symm)).1 h.2⟩
theorem RgP.snoc (h : RgP d W B ps) (hb : Below W.heap.size W W1) (hB : B ≤ W.heap.size) {x : α} {cs : List Value} (hx : d.M W1 W.heap.size (fun _ => True) x cs) : RgP d W1 B (ps ++ [⟨cs, W.heap.size, W1.heap.size, x⟩]) := by
  have h1 := h.below hb
  refine ⟨fun p hp => ?_, ?_⟩
  · rcases List.mem_append.1 hp with hp | hp
    · exact h1.1 p hp
    · rw [List.mem_singleton.1 hp]
      exact ⟨hB, Nat.le_refl _, d.M_lower hB (d.M_mono (fun k hk => ⟨hk.2.1, hk.2.2.1⟩) (d.M_bound hx))⟩
  · refine List.pairwise_append.2 ⟨h1.2, List.pairwise_singleton _ _, fun p hp q hq => ?_⟩
    rw [List.mem_singleton.1 hq]
    exact .inl (h.1 p hp).2.1
theorem RgO.typed (h : RgO sz e W B v ps) (k : Nat) (hk : v.ownBlock = some k) : ∃ cells, W.heap[k]? = some (.cells cells e (0, 0)) := by
  obtain ⟨_, inner, ho, _⟩ := h
  exact own_typed ho k hk
/-- The blocks inside are not the row's own. -/
theorem RgP.inner (h : RgP d W B ps) (hO : RgO sz e W B v qs) (he : ∀ q ∈ d.E, q ≠ e) {p : RG α} (hp : p ∈ ps) : d.M W B (fun k => (p.lo ≤ k ∧ k < p.hi) ∧ some k ≠ v.ownBlock) p.x p.v := by
  refine d.M_mono (fun k hk => ⟨hk.1, fun hv => ?_⟩) (d.M_bound (h.1 p hp).2.2)
  obtain ⟨_, _, _, q, hq, cells, hc⟩ := hk
  obtain ⟨cells', hc'⟩ := hO.typed k hv.symm
  rw [hc] at hc'
  injection hc' with hc'
  injection hc' with _ hc'
  exact he q hq hc'
theorem RgP.step (h : RgP d W B ps) (hO : RgO sz e W B v qs) (he : ∀ q ∈ d.E, q ≠ e) (hs : W.heap.size ≤ W1.heap.size) (hg : ∀ k, k < W.heap.size → some k ≠ v.ownBlock → W1.heap[k]? = W.heap[k]?) : RgP d W1 B ps :=
  ⟨fun p hp => ⟨(h.1 p hp).1, Nat.le_trans (h.1 p hp).2.1 hs, d.M_mono (fun _ hk => hk.1) (Kd.M_step (h.inner hO he hp) (fun k hk hlt => hg k hlt hk.2))⟩, h.2⟩
theorem RgO.below (h : RgO sz e W B v ps) (hb : Below W.heap.size W W1) : RgO sz e W1 B v ps := Kd.R_below h hb
theorem RgO.slice (h : RgO sz e W B v ps) : ∃ A c, v = .slice A ps.length c ∧ ps.length ≤ c := by
  obtain ⟨A, c, he, hl, _⟩ := Kd.R_reads h
  rw [List.length_map] at he hl
  exact ⟨A, c, he, hl⟩
theorem RgO.head (h : RgO sz e W B v ps) (hn : 0 < ps.length) : ∃ blk c, v = .slice (some ⟨blk, 0, none⟩) ps.length c ∧ B ≤ blk := by
  obtain ⟨_, inner, ⟨_, ho⟩, _⟩ := h
  rw [List.length_map] at ho
  rcases ho with ⟨_, h2⟩ | ⟨g, cap, cur, hv, hg, _⟩
  · omega
  · exact ⟨g, cap, hv, hg⟩
theorem RgO.one (cs : List Value) (lo hi : Nat) (x : α) (hl : cs.length = sz) (h1 : ∀ u ∈ cs, u.oneCell' = true) (hB : B ≤ W.heap.size) :
    RgO sz e (W.alloc (.cells cs.toArray e)) B (.slice (some ⟨W.heap.size, 0, none⟩) 1 1) [(⟨cs, lo, hi, x⟩ : RG α)] := by
  refine ⟨fun _ _ => trivial, cs, World.ownsRow_lit W cs.toArray 1 hB (by decide) (by simp [hl]; rfl), ?_⟩
  have := Reps.front (R := (Kd.raw sz).M (W.alloc (.cells cs.toArray e)) B (fun k => True ∧ some k ≠ (Value.slice (some ⟨W.heap.size, 0, none⟩) 1 1).ownBlock)) (size := sz) (c := cs) (p := cs) (all := cs) ⟨rfl, hl, h1⟩ hl (Reps.none _ _) (by simp)
  exact this
/-- As the print tells such a row. -/
theorem RgO.S (hO : RgO d.sz e W B v ps) (hP : RgP d W B ps) (he : ∀ q ∈ d.E, q ≠ e) : Kd.S d e W B (fun _ => True) v (ps.map RG.x) := by
  obtain ⟨_, inner, ho, hr⟩ := id hO
  refine ⟨fun k => ps.findIdx (fun p => decide (p.lo ≤ k ∧ k < p.hi)), fun _ _ => trivial, inner, ?_, ?_, ?_⟩
  · have hl : (ps.map RG.v).length = (ps.map RG.x).zipIdx.length := by simp
    rw [← hl]; exact ho
  · rw [hr.1]; simp [Kd.tag, Kd.raw]
  · intro j p hj
    rw [List.getElem?_zipIdx, List.getElem?_map] at hj
    rcases Nat.lt_or_ge j ps.length with hlt | hge
    · rw [List.getElem?_eq_getElem hlt] at hj
      simp only [Option.map_some, Option.some.injEq] at hj
      subst hj
      obtain ⟨h3, _, _⟩ := hr.2 j ps[j].v (by rw [List.getElem?_map, List.getElem?_eq_getElem hlt]; rfl)
      have h4 : ((inner.drop (j * d.sz)).take d.sz) = ps[j].v := h3
      show d.M W B _ ps[j].x ((inner.drop (j * d.sz)).take d.sz)
      rw [h4]
      refine d.M_mono (fun k hk => ⟨⟨trivial, hk.2⟩, ?_⟩) (hP.inner hO he (List.getElem_mem hlt))
      show ps.findIdx _ = 0 + j
      rw [Nat.zero_add, List.findIdx_eq hlt]
      refine ⟨by simpa using hk.1, fun i hi => ?_⟩
      have := List.pairwise_iff_getElem.1 hP.2 i j (by omega) hlt hi
      simp only [decide_eq_false_iff_not]
      have := hk.1
      omega
    · rw [List.getElem?_eq_none hge] at hj; cases hj
end
/-! ### what a sort makes of it -/
section
variable {β : Type} [Inhabited β] {α : Type}
theorem sortK_heap (enc : β → List Value) (k : Nat) (W : World) (blk off m : Nat) (dk : Array β) (os : Array Obj) : (sortWorldK enc k W blk off m dk os).heap = W.heap.modify blk (onCells (putCells id off (flatK enc k dk))) ++ os := rfl
theorem sortK_other (enc : β → List Value) (k : Nat) (W : World) (blk off m : Nat) (dk : Array β) (os : Array Obj) (j : Nat) (hj : j < W.heap.size) (hne : j ≠ blk) : (sortWorldK enc k W blk off m dk os).heap[j]? = W.heap[j]? := by
  rw [sortK_heap, Array.getElem?_append]
  have : j < (W.heap.modify blk (onCells (putCells id off (flatK enc k dk)))).size := by simpa using hj
  rw [if_pos this, Array.getElem?_modify, if_neg (Ne.symm hne)]
theorem sortK_size (enc : β → List Value) (k : Nat) (W : World) (blk off m : Nat) (dk : Array β) (os : Array Obj) : W.heap.size ≤ (sortWorldK enc k W blk off m dk os).heap.size := by
  rw [sortK_heap]; simp
theorem sortK_below {w : World} {B : Nat} (enc : β → List Value) (k : Nat) (W : World) (blk off m : Nat) (dk : Array β) (os : Array Obj) (h : Below B w W) (hB : B ≤ w.heap.size) (hblk : B ≤ blk) : Below B w (sortWorldK enc k W blk off m dk os) :=
  ⟨h.os, h.tape, h.output, Nat.le_trans h.size (sortK_size ..), fun j hj => (sortK_other enc k W blk off m dk os j (Nat.lt_of_lt_of_le hj (Nat.le_trans hB h.size)) (by omega)).trans (h.block j hj)⟩
theorem sortK_row (enc : β → List Value) (k : Nat) (W : World) (blk m : Nat) (dk : Array β) (os : Array Obj) {cur : Array Value} {e : Nat} (h : W.heap[blk]? = some (.cells cur e (0, 0))) :
    (sortWorldK enc k W blk 0 m dk os).heap[blk]? = some (.cells (putCells id 0 (flatK enc k dk) cur) e (0, 0)) := by
  have hl : blk < W.heap.size := (Array.getElem?_eq_some_iff.1 h).1
  rw [sortK_heap, Array.getElem?_append]
  have : blk < (W.heap.modify blk (onCells (putCells id 0 (flatK enc k dk)))).size := by simpa using hl
  rw [if_pos this, Array.getElem?_modify, if_pos rfl, h]
  rfl
theorem flatK_chunk (enc : β → List Value) (k : Nat) (hk : ∀ x, (enc x).length = k) (h0 : 0 < k) (dk : Array β) (j : Nat) (hj : j < dk.size) : ((flatK enc k dk).toList.drop (j * k)).take k = enc dk[j] := by
  have hb : j * k + k ≤ dk.size * k := by
    have := Nat.mul_le_mul_right k (show j + 1 ≤ dk.size from hj); rwa [Nat.add_mul, Nat.one_mul] at this
  apply List.ext_getElem
  · rw [List.length_take, List.length_drop, Array.length_toList, size_flatK, hk]; omega
  · intro i h1 h2
    rw [hk] at h2
    have hlt : j * k + i < dk.size * k := by omega
    have h3 := get_flatK enc k dk (j * k + i) hlt
    have e1 : (j * k + i) / k = j := (blk_iff k j _ h0).1 ⟨by omega, by omega⟩
    have e2 : (j * k + i) % k = i := by rw [Nat.mod_eq_sub_div_mul, e1]; omega
    rw [e1, e2] at h3
    rw [List.getElem_take, List.getElem_drop, Array.getElem_toList]
    rw [getElem!_pos (flatK enc k dk) (j * k + i) (by rw [size_flatK]; exact hlt), getElem!_pos dk j hj] at h3
    rw [h3, getElem!_pos (enc dk[j]) i (by rw [hk]; exact h2)]
theorem putCells_take (F cur : Array Value) (hs : F.size ≤ cur.size) : (putCells id 0 F cur).toList.take F.size = F.toList := by
  apply List.ext_getElem
  · rw [List.length_take, Array.length_toList, Array.length_toList]; simp [putCells]; omega
  · intro i h1 h2
    rw [Array.length_toList] at h2
    rw [List.getElem_take, Array.getElem_toList, Array.getElem_toList]
    simp [putCells, h2]
theorem RgO.sort {W : World} {B blk cap sz e : Nat} {ps qs : List (RG α)} (enc : β → List Value) (hsz : 0 < sz) (hlen : ∀ x, (enc x).length = sz) (hone : ∀ x, ∀ u ∈ enc x, u.oneCell' = true)
    (h : RgO sz e W B (.slice (some ⟨blk, 0, none⟩) ps.length cap) ps) (dk : Array β) (hd : dk.size = ps.length) (hq : qs.map RG.v = dk.toList.map enc) (m : Nat) (os : Array Obj) :
    RgO sz e (sortWorldK enc sz W blk 0 m dk os) B (.slice (some ⟨blk, 0, none⟩) ps.length cap) qs := by
  obtain ⟨_, inner, ho, hr⟩ := h
  have hql : qs.length = ps.length := by
    have := congrArg List.length hq
    simpa [hd] using this
  rw [List.length_map] at ho
  obtain ⟨h1, h2⟩ := ho
  rcases h2 with ⟨h2, _⟩ | ⟨g, cap', cur, hv, hg, hh, hn, hm, hc, ht⟩
  · cases h2
  · injection hv with hv _ hv2
    injection hv with hv
    injection hv with hv
    subst hv
    subst hv2
    have hfs : (flatK enc sz dk).size = ps.length * sz := by rw [size_flatK, hd]
    have hfc : (flatK enc sz dk).size ≤ cur.size := by rw [hfs, hc]; exact Nat.mul_le_mul_right _ hn
    refine ⟨fun _ _ => trivial, (flatK enc sz dk).toList, ⟨?_, .inr ⟨blk, cap, _, by rw [List.length_map, hql], hg, sortK_row enc sz W blk m dk os hh, ?_, hm, ?_, ?_⟩⟩, ?_, ?_⟩
    · rw [Array.length_toList, hfs, List.length_map, hql]; rfl
    · rw [List.length_map, hql]; exact hn
    · rw [← hc]; simp [putCells]
    · rw [List.length_map, hql]
      have := putCells_take (flatK enc sz dk) cur hfc
      rw [hfs] at this
      exact this
    · rw [Array.length_toList, hfs, List.length_map, hql]; rfl
    · intro j p hj
      rw [hq, List.getElem?_map] at hj
      rcases Nat.lt_or_ge j dk.size with hlt | hge
      · rw [Array.getElem?_toList, Array.getElem?_eq_getElem hlt] at hj
        simp only [Option.map_some, Option.some.injEq] at hj
        subst hj
        have hch := flatK_chunk enc sz hlen hsz dk j hlt
        exact ⟨hch, (congrArg List.length hch).trans (hlen _), fun u hu => hone _ u (hch ▸ hu)⟩
      · rw [Array.getElem?_toList, Array.getElem?_eq_none hge] at hj; cases hj
theorem RgO.holds {W : World} {B blk cap sz e : Nat} {ps : List (RG α)} (enc : β → List Value) (hsz : 0 < sz) (hlen : ∀ x, (enc x).length = sz) (h : RgO sz e W B (.slice (some ⟨blk, 0, none⟩) ps.length cap) ps) (dk : Array β) (hq : ps.map RG.v = dk.toList.map enc) :
    HoldsK enc sz W blk 0 dk := by
  have hd : dk.size = ps.length := by
    have := congrArg List.length hq
    simpa using this.symm
  obtain ⟨_, inner, ho, hr⟩ := h
  rw [List.length_map] at ho
  obtain ⟨h1, h2⟩ := ho
  rcases h2 with ⟨h2, _⟩ | ⟨g, cap', cur, hv, hg, hh, hn, hm, hc, ht⟩
  · cases h2
  · injection hv with hv _ hv2
    injection hv with hv
    injection hv with hv
    subst hv
    subst hv2
    intro t ht2
    rw [size_flatK] at ht2
    have h0 := get_flatK enc sz dk t ht2
    have htj : t / sz < dk.size := Nat.div_lt_of_lt_mul (by rwa [Nat.mul_comm])
    have hdm : t / sz * sz + t % sz = t := by rw [Nat.mul_comm]; exact Nat.div_add_mod t sz
    have hml : t % sz < sz := Nat.mod_lt _ hsz
    have hj : (ps.map RG.v)[t / sz]? = some (enc dk[t / sz]) := by
      rw [hq, List.getElem?_map, Array.getElem?_toList, Array.getElem?_eq_getElem htj]; rfl
    obtain ⟨h3, _, _⟩ := hr.2 (t / sz) _ hj
    have h4 : (inner.drop (t / sz * sz)).take sz = enc dk[t / sz] := h3
    have h5 : inner[t]? = some (enc dk[t / sz])[t % sz]! := by
      rw [getElem!_pos (enc dk[t / sz]) (t % sz) (by rw [hlen]; exact hml), ← List.getElem?_eq_getElem, ← h4, List.getElem?_take, if_pos hml, List.getElem?_drop, hdm]
    refine ⟨?_, by simp [World.frozen?, hh]⟩
    rw [Nat.zero_add, blk_cell hh, id, h0, getElem!_pos dk (t / sz) htj, ← h5, ← ht, List.getElem?_take, if_pos (by rw [← hd]; exact ht2), Array.getElem?_toList]
end
end Go.Proofs.Yteeghncofacmhaa.Q
end
section
/- What impl.planeRegions computes, and its sort. -/
namespace Go.Proofs.Yteeghncofacmhaa.Q
open Go.RowKit Go.Proofs.YteeghncofacmhaaW.PrintWords Go.Proofs.YteeghncofacmhaaW.PrintLast Go.Proofs.YteeghncofacmhaaW.PrintMore Go.Sort
set_option linter.unusedVariables false
set_option linter.unusedSimpArgs false
theorem infoReg : (Try.prog.info? 71).map (fun i => (i.zero, i.size, i.bytes)) = some (some (.agg #[.slice none 0 0, .slice none 0 0, .slice none 0 0]), 3, 72) := by kernel_rfl
def rg (t : List Int × List Ch × List Int) : S71 := ⟨t.1, t.2.1, t.2.2⟩
def regs (n : Int) (l : List Ch) : List S71 := ((ids l).map fun q => rg (regOf n l q)).mergeSort (fun x y => lexLe x.f0 y.f0)
def impl_planeRegions.f (a0 : Int) (l1 : List S64) : Option (List S71 × Bool) := if l1.length ≤ 4611686018427387904 then some (if plane a0 l1 = true then (regs a0 l1, true) else ([], false)) else none
theorem alloc2_grow (W : World) (o1 o2 : Obj) (nd : Nat) : ((W.alloc o1).alloc o2).drewN nd = grow (W.drewN nd) #[o1, o2] := by
  rw [alloc_eq_grow, alloc_eq_grow, grow_grow]
  rfl
set_option maxHeartbeats 1000000 in
theorem cmp_regs (W : World) (x y : S71) (cx cy : List Value) (hx : k71.K W x cx) (hy : k71.K W y cy) (hlx : x.f0.length ≤ 1000000) :
    Calls Try.prog 106 #[.agg cx.toArray, .agg cy.toArray] W fun e w' => e = .returned (.int .i64 (lexCmp x.f0 y.f0)) ∧ ∃ q os', w' = grow (W.drewN q) os' := by
  obtain ⟨A0, c0, A1, c1, A2, c2, rfl, l0, g0, _, _, _, _⟩ := k71_open hx
  obtain ⟨B0, d0, B1, d1, B2, d2, rfl, m0, n0, _, _, _, _⟩ := k71_open hy
  obtain ⟨k, hk⟩ := compare_ev x.f0 y.f0 hlx
  have hq : ∀ W', Below W.heap.size W W' → Calls Try.prog 107 #[.slice A0 x.f0.length c0, .slice B0 y.f0.length d0] W' fun e w' => e = .returned (.int .i64 (lexCmp x.f0 y.f0)) ∧ Drawn0 W' w' :=
    fun W' hb => slices_Compare_int_int.calls k _ _ _ _ _ _ _ W' (Kd.C_below g0 hb) l0 (Kd.C_below n0 hb) m0 (hk k (Nat.le_refl _))
  generalize lexCmp x.f0 y.f0 = r at hq ⊢
  clear hk g0 n0 hx hy
  replace hq := Aside0.mk hq
  go_enter Try.func106, Try.ntmps106
  go_wp2_with (go_at_call 107; refine (hq.out _ (below_alloc (below_alloc (Below.refl _ _) _) _)).mono ?_; rintro e w' ⟨rfl, ⟨nd, rfl⟩⟩)
  go_ret
  exact ⟨rfl, nd, _, alloc2_grow _ _ _ _⟩
theorem lexLt_ntrans (a b c : List Int) (h1 : lexLt a b = false) (h2 : lexLt b c = false) : lexLt a c = false := by
  have := lexLe_trans c b a (by unfold lexLe; rw [h2]; rfl) (by unfold lexLe; rw [h1]; rfl)
  unfold lexLe at this
  simpa using this
set_option maxHeartbeats 1000000 in
theorem sort_regs (W : World) (B blk cap : Nat) (ps : List (RG S71)) (hP : RgP k71 W B ps) (hO : RgO 3 71 W B (.slice (some ⟨blk, 0, none⟩) ps.length cap) ps)
    (hlen : ∀ p ∈ ps, p.x.f0.length ≤ 1000000) (hinj : ∀ (i j : Nat) (hi : i < ps.length) (hj : j < ps.length), ps[i].x.f0 = ps[j].x.f0 → i = j) (hn : 0 < ps.length) (hN : ps.length < 4611686018427387904) :
    Calls Try.prog 105 #[.slice (some ⟨blk, 0, none⟩) ps.length cap, .func (.func 106) #[] #[]] W fun e w' => e = .returned (.tuple #[]) ∧
      ∃ qs : List (RG S71), qs.Perm ps ∧ qs.map RG.x = (ps.map RG.x).mergeSort (fun x y => lexLe x.f0 y.f0) ∧ RgP k71 w' B qs ∧ RgO 3 71 w' B (.slice (some ⟨blk, 0, none⟩) ps.length cap) qs ∧ W.heap.size ≤ w'.heap.size ∧ ∀ w : World, Below w.heap.size w W → w.heap.size ≤ blk → Below w.heap.size w w' := by
  haveI : Inhabited (Fin ps.length) := ⟨⟨0, hn⟩⟩
  have hE : ∀ q ∈ k71.E, q ≠ 71 := by decide
  have hsz : k71.sz = 3 := rfl
  have hd : ((List.finRange ps.length).toArray).size = ps.length := by simp
  have hfin : (List.finRange ps.length).map (fun i => ps[i]) = ps := by
    apply List.ext_getElem
    · simp
    · intro i h1 h2; simp
  have hlen3 : ∀ i : Fin ps.length, (ps[i].v).length = 3 := fun i => k71.K_len (k71.K_of_M (hP.1 ps[i] (List.getElem_mem i.2)).2.2)
  have hone : ∀ i : Fin ps.length, ∀ u ∈ ps[i].v, u.oneCell' = true := fun i => k71.K_one (k71.K_of_M (hP.1 ps[i] (List.getElem_mem i.2)).2.2)
  have hlt : ∀ i j : Fin ps.length, Go.Proofs.ltOf (fun i j : Fin ps.length => lexCmp ps[i].x.f0 ps[j].x.f0) i j = lexLt ps[i].x.f0 ps[j].x.f0 := fun i j => lexCmp_lt _ _
  have hSW : SWO (Go.Proofs.ltOf (fun i j : Fin ps.length => lexCmp ps[i].x.f0 ps[j].x.f0)) :=
    ⟨fun i => by rw [hlt]; exact lexLt_irrefl _, fun i j k h1 h2 => by rw [hlt] at *; exact lexLt_trans _ _ _ h1 h2, fun i j k h1 h2 => by rw [hlt] at *; exact lexLt_ntrans _ _ _ h1 h2⟩
  have hT : ∀ i j : Fin ps.length, Go.Proofs.ltOf (fun i j : Fin ps.length => lexCmp ps[i].x.f0 ps[j].x.f0) i j = false → Go.Proofs.ltOf (fun i j : Fin ps.length => lexCmp ps[i].x.f0 ps[j].x.f0) j i = false → i = j := fun i j h1 h2 => by
    rw [hlt] at h1 h2
    exact Fin.ext (hinj i j i.2 j.2 (lexLt_total _ _ h1 h2))
  obtain ⟨cells, hcells⟩ := hO.typed blk rfl
  have hblk : blk < W.heap.size := (Array.getElem?_eq_some_iff.1 hcells).1
  have eg : ∀ args w, (callFunc 106 args).run Try.prog w = .ok (.enter 106 args) w := enters_of Try.func106 (by kernel_rfl) rfl
  have hstep : ∀ (m : Nat) (os : Array Obj) (dk : Array (Fin ps.length)), RgP k71 (sortWorldK (fun i : Fin ps.length => ps[i].v) 3 W blk 0 m dk os) B ps := fun m os dk =>
    hP.step hO hE (sortK_size ..) (fun k hk hne => sortK_other _ _ _ _ _ _ _ _ k hk (fun e => hne (by subst e; rfl)))
  have hcmp : CmpLays Try.prog 106 #[] (fun i : Fin ps.length => ps[i].v) 3 (fun i j : Fin ps.length => lexCmp ps[i].x.f0 ps[j].x.f0) blk 0 ((List.finRange ps.length).toArray).size W := fun m os dk _ i j =>
    cmp_regs _ ps[i].x ps[j].x _ _ (k71.K_of_M ((hstep m os dk).1 ps[i] (List.getElem_mem i.2)).2.2) (k71.K_of_M ((hstep m os dk).1 ps[j] (List.getElem_mem j.2)).2.2) (hlen _ (List.getElem_mem i.2))
  have hH : HoldsK (fun i : Fin ps.length => ps[i].v) 3 W blk 0 (List.finRange ps.length).toArray := RgO.holds (fun i : Fin ps.length => ps[i].v) (by decide) hlen3 hO _ (by
    rw [List.toList_toArray]
    conv => lhs; rw [← hfin]
    rw [List.map_map]
    rfl)
  have hS := AnyQ.slices_SortFunc_total Try.lSortReg 3 Try.isAgg71 Try.sizeOf71 (fun i : Fin ps.length => ps[i].v) hlen3 hone (fun i j : Fin ps.length => lexCmp ps[i].x.f0 ps[j].x.f0) hSW 106 #[] blk 0 cap (List.finRange ps.length).toArray W eg hcmp hH hblk (by rw [hd]; exact hN) hT
  rw [hd] at hS
  refine hS.mono ?_
  rintro e w' ⟨rfl, m, os, rfl⟩
  refine ⟨rfl, ((List.finRange ps.length).mergeSort fun i j => !(Go.Proofs.ltOf (fun i j : Fin ps.length => lexCmp ps[i].x.f0 ps[j].x.f0)) j i).map (fun i => ps[i]), ?_, ?_, ?_, ?_, sortK_size .., ?_⟩
  · have := (List.mergeSort_perm (List.finRange ps.length) (fun i j => !(Go.Proofs.ltOf (fun i j : Fin ps.length => lexCmp ps[i].x.f0 ps[j].x.f0)) j i)).map (fun i => ps[i])
    rwa [hfin] at this
  · rw [List.map_map, List.map_mergeSort (s := fun x y : S71 => lexLe x.f0 y.f0) (fun i _ j _ => by rw [hlt]; rfl)]
    congr 1
    conv => rhs; rw [← hfin]
    rw [List.map_map]
  · refine (hstep _ _ _).perm (List.Perm.symm ?_)
    have := (List.mergeSort_perm (List.finRange ps.length) (fun i j => !(Go.Proofs.ltOf (fun i j : Fin ps.length => lexCmp ps[i].x.f0 ps[j].x.f0)) j i)).map (fun i => ps[i])
    rwa [hfin] at this
  · exact RgO.sort (fun i : Fin ps.length => ps[i].v) (by decide) hlen3 hone hO _ (by simp) (by simp) _ _
  · intro w hb hB
    exact sortK_below _ _ _ _ _ _ _ _ hb (Nat.le_refl _) hB
end Go.Proofs.Yteeghncofacmhaa.Q
end
section
/- impl.planeRegions by hand: the machine computes it. -/
namespace Go.Proofs.Yteeghncofacmhaa.Q
open Go.RowKit Go.Proofs.YteeghncofacmhaaW.PrintWords Go.Proofs.YteeghncofacmhaaW.PrintLast Go.Proofs.YteeghncofacmhaaW.PrintMore Go.Sort
attribute [local go_sem] max2_int min2_int max_two min_two max_three min_three max_four min_four
set_option linter.unusedVariables false
set_option linter.unusedSimpArgs false
theorem regOf_false (n : Int) (l : List Ch) : regionOf l ⟨0, n - 1⟩ false = regOf n l none := rfl
theorem regOf_true (n : Int) (l : List Ch) (c : Ch) : regionOf l c true = regOf n l (some c) := rfl
/-- The regions, as_ far as_ the chords have been gone through. -/
def someRegs (n : Int) (l : List Ch) (j : Nat) : List S71 := (ids (l.take j)).map fun q => rg (regOf n l q)
theorem someRegs_all (n : Int) (l : List Ch) : (someRegs n l l.length).mergeSort (fun x y => lexLe x.f0 y.f0) = regs n l := by unfold someRegs regs; rw [List.take_length]
theorem someRegs_succ {n : Int} {l : List Ch} {j : Nat} (hj : j < l.length) {c : Ch} (hc : rd_T64 l (j : Int) = c) : someRegs n l (j + 1) = someRegs n l j ++ [rg (regOf n l (some c))] := by
  have h1 : l[j] = c := by
    rw [← hc]; simp [rd_T64, List.getD_eq_getElem?_getD, List.getElem?_eq_getElem hj]
  unfold someRegs ids
  rw [List.take_succ_eq_append_getElem hj, h1]
  simp
theorem someRegs_len (n : Int) (l : List Ch) (j : Nat) (hj : j ≤ l.length) : (someRegs n l j).length = j + 1 := by
  unfold someRegs ids; simp; omega
theorem plane_calls_no (a0 : Int) (A1 : Option Addr) (c1 : Nat) (l1 : List S64) (w : World) (hr1 : Kd.C k64 w A1 l1.length l1) (hc1 : l1.length ≤ c1) (hl : l1.length ≤ 4611686018427387904) (h : plane a0 l1 = false) :
    Calls Try.prog 59 #[.int .i64 a0, .slice A1 l1.length c1] w fun e w' => e = .returned (.tuple #[.slice none 0 0, .bool false]) ∧ Below w.heap.size w w' := by
  obtain ⟨k, hk⟩ := isSet_ev a0 l1 (by omega)
  have h90 := impl_isSet.calls k a0 A1 c1 l1 _ w hr1 hc1 (hk k (Nat.le_refl _))
  unfold plane at h
  cases hg : goodSet a0 l1 with
  | false =>
    rw [hg] at h90
    clear hk
    go_enter Try.func59, Try.ntmps59
    go_wp2_with (go_at_call 90; refine h90.mono ?_; rintro e w' ⟨rfl, hb⟩)
    go_ret2
    exact ⟨rfl, hb⟩
  | true =>
    rw [hg] at h90
    obtain ⟨k2, hk2⟩ := crossings_ev l1 (by have := good_len hg; omega)
    have h91 : ∀ w1, Below w.heap.size w w1 → Calls Try.prog 91 #[.slice A1 l1.length c1] w1 fun e w' => e = .returned (.int .i64 (cntPairs l1 : Int)) ∧ Below w1.heap.size w1 w' :=
      fun w1 hb => impl_crossings.calls k2 A1 c1 l1 _ w1 (Kd.C_below hr1 hb) hc1 (hk2 k2 (Nat.le_refl _))
    have hpos : 0 < cntPairs l1 := by
      rw [hg] at h
      simp at h
      omega
    clear hk hk2 h
    generalize cntPairs l1 = N at h91 hpos
    have hN : decide ((0 : Int) < (N : Int)) = true := decide_eq_true (by omega)
    replace h91 := Aside0.mk h91
    go_enter Try.func59, Try.ntmps59
    go_wp2_with (first | (go_at_call 90; refine h90.mono ?_; rintro e w' ⟨rfl, hb⟩) | (go_at_call 91; refine (h91.out _ hb).mono ?_; rintro e w2 ⟨rfl, hb2⟩))
    go_ret2
    exact ⟨rfl, below_step hb hb2⟩
set_option maxHeartbeats 8000000 in
set_option maxRecDepth 100000 in
theorem plane_calls_yes (a0 : Int) (A1 : Option Addr) (c1 : Nat) (l1 : List S64) (w : World) (hr1 : Kd.C k64 w A1 l1.length l1) (hc1 : l1.length ≤ c1) (hl : l1.length ≤ 4611686018427387904) (h : plane a0 l1 = true) :
    Calls Try.prog 59 #[.int .i64 a0, .slice A1 l1.length c1] w fun e w' => ∃ v0_ : Value, e = .returned (.tuple #[v0_, .bool true]) ∧ Kd.S k71 71 w' w.heap.size (fun _ => True) v0_ (regs a0 l1) ∧ Below w.heap.size w w' := by
  have hg := plane_good h
  have hnc := plane_nc h
  have hnd := good_nodup hg
  obtain ⟨hn3, hn60⟩ := good_n hg
  have hl40 := good_len hg
  have hok := good_ok hg
  have h0 : cntPairs l1 = 0 := by unfold plane at h; simp at h; exact h.2
  obtain ⟨k, hk⟩ := isSet_ev a0 l1 (by omega)
  have h90 := impl_isSet.calls k a0 A1 c1 l1 _ w hr1 hc1 (hk k (Nat.le_refl _))
  rw [hg] at h90
  obtain ⟨k2, hk2⟩ := crossings_ev l1 (by have := good_len hg; omega)
  have h91 : ∀ w1, Below w.heap.size w w1 → Calls Try.prog 91 #[.slice A1 l1.length c1] w1 fun e w' => e = .returned (.int .i64 0) ∧ Below w1.heap.size w1 w' :=
    fun w1 hb => by
      have := impl_crossings.calls k2 A1 c1 l1 _ w1 (Kd.C_below hr1 hb) hc1 (hk2 k2 (Nat.le_refl _))
      rw [h0] at this
      exact this
  have hin : ∀ (c : Ch) (b : Bool), 0 ≤ c.f0 → c.f1 ≤ 1000 → ∀ w1, Below w.heap.size w w1 → Calls Try.prog 104 #[.slice A1 l1.length c1, .agg #[.int .i64 c.f0, .int .i64 c.f1], .bool b] w1 fun e w' => ∃ v0_ v1_ v2_ : Value, e = .returned (.agg #[v0_, v1_, v2_]) ∧ k71.M w' w1.heap.size (fun _ => True) (rg (regionOf l1 c b)) [v0_, v1_, v2_] ∧ Below w1.heap.size w1 w' :=
    fun c b hb0 hb1 w1 hb => by
      obtain ⟨k3, hk3⟩ := inside_ev l1 c b (by omega) hb0 hb1
      refine (impl_regionInside.calls k3 A1 c1 l1 c.f0 c.f1 b _ _ _ w1 (Kd.C_below hr1 hb) hc1 (hk3 k3 (Nat.le_refl _))).mono ?_
      rintro e w' ⟨v0, v1, v2, he, r0, r1, r2, hb'⟩
      exact ⟨v0, v1, v2, he, k71_mkM w' _ _ (rg (regionOf l1 c b)) (Kd.R_mono r0 (fun _ _ => trivial)) (Kd.R_mono r1 (fun _ _ => trivial)) (Kd.R_mono r2 (fun _ _ => trivial)), hb'⟩
  have hin0 := hin ⟨0, a0 - 1⟩ false (Int.le_refl _) (by show a0 - 1 ≤ 1000; omega)
  rw [regOf_false] at hin0
  have hinl : ∀ c ∈ l1, ∀ w1, Below w.heap.size w w1 → Calls Try.prog 104 #[.slice A1 l1.length c1, .agg #[.int .i64 c.f0, .int .i64 c.f1], .bool true] w1 fun e w' => ∃ v0_ v1_ v2_ : Value, e = .returned (.agg #[v0_, v1_, v2_]) ∧ k71.M w' w1.heap.size (fun _ => True) (rg (regOf a0 l1 (some c))) [v0_, v1_, v2_] ∧ Below w1.heap.size w1 w' := by
    intro c hc
    have := hin c true (hok c hc).1 (by have := hok c hc; omega)
    rwa [regOf_true a0] at this
  have hsort : ∀ (W : World) (B blk cap : Nat) (ps : List (RG S71)), RgP k71 W B ps → RgO 3 71 W B (.slice (some ⟨blk, 0, none⟩) ps.length cap) ps → ps.map RG.x = someRegs a0 l1 l1.length →
    Calls Try.prog 105 #[.slice (some ⟨blk, 0, none⟩) ps.length cap, .func (.func 106) #[] #[]] W fun e w' => e = .returned (.tuple #[]) ∧
      Kd.S k71 71 w' B (fun _ => True) (.slice (some ⟨blk, 0, none⟩) ps.length cap) (regs a0 l1) ∧ ∀ w : World, Below w.heap.size w W → w.heap.size ≤ blk → Below w.heap.size w w' := by
    intro W B blk cap ps hP hO hx
    have hpl : ps.length = l1.length + 1 := by
      have := congrArg List.length hx
      rwa [List.length_map, someRegs_len a0 l1 _ (Nat.le_refl _)] at this
    have hxi : ∀ (i : Nat) (hi : i < ps.length), ∃ q, (ids l1)[i]? = some q ∧ ps[i].x = rg (regOf a0 l1 q) := fun i hi => by
      have h1 : (ps.map RG.x)[i]? = some ps[i].x := by rw [List.getElem?_map, List.getElem?_eq_getElem hi]; rfl
      rw [hx] at h1
      unfold someRegs at h1
      rw [List.take_length, List.getElem?_map, Option.map_eq_some_iff] at h1
      obtain ⟨q, h1, h2⟩ := h1
      exact ⟨q, h1, h2.symm⟩
    have hids : (ids l1).Nodup := by
      unfold ids
      rw [List.nodup_cons]
      exact ⟨by simp, List.Pairwise.map some (fun a b hab he => hab (Option.some.inj he)) hnd⟩
    have hface : ∀ (i : Nat) (hi : i < ps.length), ∃ q, (ids l1)[i]? = some q ∧ (∀ d, q = some d → d ∈ l1) ∧ ps[i].x.f0 = face a0 l1 q := fun i hi => by
      obtain ⟨q, h1, h2⟩ := hxi i hi
      have hq := mem_ids.1 (List.mem_of_getElem? h1)
      exact ⟨q, h1, hq, by rw [h2]; exact reg_points hnc (by omega) hq⟩
    refine (sort_regs W B blk cap ps hP hO ?_ ?_ (by omega) (by omega)).mono ?_
    · intro p hp
      obtain ⟨i, hi, rfl⟩ := List.mem_iff_getElem.1 hp
      obtain ⟨q, _, _, h3⟩ := hface i hi
      rw [h3]
      unfold face
      refine Nat.le_trans (List.length_filter_le _ _) ?_
      simp [ints]; omega
    · intro i j hi hj he
      obtain ⟨q, h1, h2, h3⟩ := hface i hi
      obtain ⟨q', h1', h2', h3'⟩ := hface j hj
      have : q = q' := face_inj hnc hn3 h2 h2' (by rw [← h3, ← h3', he])
      subst this
      have hl1 : i < (ids l1).length := (List.getElem?_eq_some_iff.1 h1).1
      exact (List.getElem?_inj hl1 hids).1 (h1.trans h1'.symm)
    · rintro e w' ⟨rfl, qs, hqp, hqx, hqP, hqO, _, hqb⟩
      refine ⟨rfl, ?_, hqb⟩
      rw [← someRegs_all, ← hx, ← hqx]
      exact RgO.S (d := k71) hqO hqP (by decide)
  have HR1 := Aside0.mk hr1
  replace h91 := Aside0.mk h91
  replace hin0 := Aside0.mk hin0
  replace hinl := Aside0.mk hinl
  replace hsort := Aside0.mk hsort
  clear hin hk hk2 hr1 h hg hnc hnd hok h0 k k2 hl
  have hu64 := Try.underlying64
  have hw1 : wrap64 (a0 - 1) = a0 - 1 := w64s (by omega) (by omega)
  go_enter Try.func59, Try.ntmps59
  go_wp2_with (first | (go_at_call 90; refine h90.mono ?_; rintro e w' ⟨rfl, hb⟩) | (go_at_call 91; refine (h91.out _ hb).mono ?_; rintro e w2 ⟨rfl, hb2⟩) | (go_at_call 104; refine (hin0.out _ (below_step hb hb2)).mono ?_; rintro e w3 ⟨v0, v1, v2, rfl, hM, hb3⟩))
  have hB2 : w.heap.size ≤ w2.heap.size := (below_step hb hb2).size
  have hbw3 : Below w.heap.size w w3 := below_step (below_step hb hb2) hb3
  have P0 := ((RgP.nil k71 w2 w.heap.size).snoc hb3 hB2 hM).below (below_alloc (Below.refl _ _) (.cells #[v0, v1, v2] 71))
  have O0 := RgO.one (e := 71) (W := w3) (B := w.heap.size) [v0, v1, v2] w2.heap.size w3.heap.size (rg (regOf a0 l1 none)) rfl (k71.K_one (k71.K_of_M hM)) hbw3.size
  have B0 := below_alloc hbw3 (.cells #[v0, v1, v2] 71)
  replace P0 := Aside0.mk P0
  replace O0 := Aside0.mk O0
  replace B0 := Aside0.mk B0
  clear h90 h91 hin0 hb hb2 hM hb3 hB2 hbw3
  go_loopw [6, 26] (fun v6 v26 wr => ∃ (j : Nat) (ps : List (RG S71)), v26 = .int .i64 (j : Int) ∧ Aside0 (j ≤ l1.length) ∧ Aside0 (ps.map RG.x = someRegs a0 l1 j) ∧ Aside0 (RgP k71 wr w.heap.size ps) ∧ Aside0 (RgO 3 71 wr w.heap.size v6 ps) ∧ Aside0 (Below w.heap.size w wr)) (fun _ v26 _ => l1.length - (intOf v26).toNat)
  case atStart => exact ⟨0, _, rfl, ⟨Nat.zero_le _⟩, ⟨rfl⟩, P0, O0, B0⟩
  case round =>
    clear P0 O0 B0
    obtain ⟨j, ps, rfl, hj, hps, HP, HO, HB⟩ := hrel
    replace hj := hj.out
    have hpl : ps.length = j + 1 := by
      have := congrArg List.length hps.out
      rwa [List.length_map, someRegs_len a0 l1 _ hj] at this
    by_cases hlt : j < l1.length
    · have hl : decide ((j : Int) < (l1.length : Int)) = true := decide_eq_true (by omega)
      obtain ⟨ad, ea, hx0, hx1⟩ := at_T64 HR1.out (j : Int) (by omega) (by omega)
      cases ea
      replace hx0 := (HB.out.cell (World.block_lt_of_cell? w _ hx0)).trans hx0
      replace hx1 := (HB.out.cell (World.block_lt_of_cell? w _ hx1)).trans hx1
      rw [Int.toNat_natCast] at hx0 hx1
      have hmem : rd_T64 l1 (j : Int) ∈ l1 := by
        have : rd_T64 l1 (j : Int) = l1[j] := by simp [rd_T64, List.getD_eq_getElem?_getD, List.getElem?_eq_getElem hlt]
        rw [this]; exact List.getElem_mem hlt
      generalize hc : rd_T64 l1 (j : Int) = ch at hx0 hx1 hmem
      replace hc := Aside0.mk hc
      have hcall := hinl.out ch hmem _ (below_alloc HB.out (.cells #[.int .i64 ch.f0, .int .i64 ch.f1] 64))
      replace hmem := Aside0.mk hmem
      go_wp2_with (first | (go_at_call 104; refine hcall.mono ?_; rintro e w4 ⟨v0, v1, v2, rfl, hM, hb4⟩; have hb5 := below_then (below_alloc (Below.refl _ wr) (.cells #[.int .i64 ch.f0, .int .i64 ch.f1] 64)) (by simp) hb4; have HO4 := Aside0.mk (HO.out.below hb5); have HB4 := Aside0.mk (below_step HB.out hb5); have HM4 := Aside0.mk hM; have hb4' := Aside0.mk hb4; clear hM hb4 hb5) | ((with_reducible refine gate_builtin (b := .append) (xs := #[.tmp 30, .tmp 34]) rfl ?_); at_builtin; refine Kd.R_append (Kd.raw 3) (w0 := w) w.heap.size rfl (.tmp 30) (.tmp 34) 67 71 (.agg #[.slice none 0 0, .slice none 0 0, .slice none 0 0]) 72 rfl Try.underlying67 infoReg rfl (by decide) (by omega) _ (ps.map RG.v) [v0, v1, v2] [v0, v1, v2] (fun _ => True) (fun _ => False) rfl rfl ⟨rfl, rfl, k71.K_one (k71.K_of_M HM4.out)⟩ (fun _ hk => hk.elim) (fun _ _ => trivial) HO4.out HB4.out HB4.out.size ?aL ?_; (case aL => simp; omega); intro v5 w5 ho_ hb_ hg_ ha_; have HO5 := Aside0.mk ho_; have HB5 := Aside0.mk hb_; have HG5 := Aside0.mk hg_; clear ho_ hb_ hg_ ha_))
      go_roundw
      case rel =>
        refine ⟨j + 1, ps ++ [⟨[v0, v1, v2], (wr.alloc (.cells #[.int .i64 ch.f0, .int .i64 ch.f1] 64)).heap.size, w4.heap.size, rg (regOf a0 l1 (some ch))⟩], by go_num, ⟨by omega⟩, ⟨?_⟩, ⟨?_⟩, ⟨?_⟩, HB5⟩
        · rw [List.map_append, hps.out, someRegs_succ hlt hc.out]; rfl
        · have h1 := (HP.out.below (below_alloc (Below.refl _ wr) (.cells #[.int .i64 ch.f0, .int .i64 ch.f1] 64))).snoc hb4'.out (Nat.le_trans HB.out.size (by simp)) HM4.out
          exact h1.step HO4.out (by decide) HG5.out.size (fun k hk hne => HG5.out.block k hk hne)
        · unfold RgO
          rw [List.map_append]
          exact HO5.out
      case measure => simp [intOf]; omega
    · have hl : decide ((j : Int) < (l1.length : Int)) = false := decide_eq_false (by omega)
      obtain rfl : j = l1.length := by omega
      obtain ⟨blk, cap, e6, hblk⟩ := HO.out.head (by omega)
      subst e6
      have hcall := hsort.out wr w.heap.size blk cap ps HP.out HO.out hps.out
      replace hblk := Aside0.mk hblk
      replace hcall := Aside0.mk hcall
      replace hpl := Aside0.mk hpl
      clear hlt hj hsort hinl
      go_wp2_with fail
      (with_reducible refine hcall.out.mono ?_)
      rintro e w' ⟨rfl, hS, hb⟩
      replace hS := Aside0.mk hS
      replace hb := Aside0.mk hb
      go_wp2_with fail
      go_ret2
      exact ⟨_, rfl, hS.out, hb.out w HB.out hblk.out⟩
theorem impl_planeRegions.calls (a0 : Int) (A1 : Option Addr) (c1 : Nat) (l1 : List S64) (r1 : List S71) (r2 : Bool) (w : World) (hr1 : Kd.C k64 w A1 l1.length l1) (hc1 : l1.length ≤ c1) (h : impl_planeRegions.f a0 l1 = some (r1, r2)) :
    Calls Try.prog 59 #[.int .i64 a0, .slice A1 l1.length c1] w fun e w' => ∃ v0_ : Value, e = .returned (.tuple #[v0_, .bool r2]) ∧ Kd.S k71 71 w' w.heap.size (fun _ => True) v0_ r1 ∧ Below w.heap.size w w' := by
  unfold impl_planeRegions.f at h
  by_cases hl : l1.length ≤ 4611686018427387904
  · rw [if_pos hl] at h
    cases hp : plane a0 l1 with
    | true =>
      rw [hp, if_pos rfl] at h
      simp only [Option.some.injEq, Prod.mk.injEq] at h
      obtain ⟨rfl, rfl⟩ := h
      exact plane_calls_yes a0 A1 c1 l1 w hr1 hc1 hl hp
    | false =>
      rw [hp, if_neg (by decide)] at h
      simp only [Option.some.injEq, Prod.mk.injEq] at h
      obtain ⟨rfl, rfl⟩ := h
      refine (plane_calls_no a0 A1 c1 l1 w hr1 hc1 hl hp).mono ?_
      rintro e w' ⟨rfl, hb⟩
      exact ⟨_, rfl, Kd.S_nil _ _ _ _ _, hb⟩
  · rw [if_neg hl] at h; cases h
end Go.Proofs.Yteeghncofacmhaa.Q
end
section
namespace Go.Proofs.Yteeghncofacmhaa.Q
open Go.RowKit Go.Proofs.YteeghncofacmhaaW.PrintWords Go.Proofs.YteeghncofacmhaaW.PrintLast Go.Proofs.YteeghncofacmhaaW.PrintMore
attribute [local go_sem] max2_int min2_int max_two min_two max_three min_three max_four min_four   -- for this text's walks alone
set_option linter.unusedVariables false
set_option linter.unusedSimpArgs false
/-! ### slices_Index_int_int: function 109 -/
def slices_Index_int_int.l0 : Nat → List Int → Int → Int → Int → Option (Int)
  | 0, _, _, _, _ => none
  | k + 1, x0, x1, x7, x8 => if x8 < x7 then (if 0 ≤ x8 then (if x8 < (x0.length : Int) then (if x1 = (rd x0 x8) then (some x8) else (slices_Index_int_int.l0 k x0 x1 x7 (wrap64 (x8 + 1)))) else (none)) else (none)) else (some (-1))
def slices_Index_int_int.f (k : Nat) (l0 : List Int) (a1 : Int) : Option (Int) := slices_Index_int_int.l0 k l0 a1 (l0.length : Int) 0
end Go.Proofs.Yteeghncofacmhaa.Q
end
section
namespace Go.Proofs.Yteeghncofacmhaa.Q
open Go.RowKit Go.Proofs.YteeghncofacmhaaW.PrintWords Go.Proofs.YteeghncofacmhaaW.PrintLast Go.Proofs.YteeghncofacmhaaW.PrintMore
attribute [local go_sem] max2_int min2_int max_two min_two max_three min_three max_four min_four   -- for this text's walks alone
set_option linter.unusedVariables false
set_option linter.unusedSimpArgs false
/-! ### slices_Contains_int_int: function 66 -/
def slices_Contains_int_int.f (k : Nat) (l0 : List Int) (a1 : Int) : Option (Bool) := (slices_Index_int_int.f k l0 a1).bind fun t101 => (some (decide (t101 ≥ 0)))
end Go.Proofs.Yteeghncofacmhaa.Q
end
section
/- impl.RegionOfArc by hand. -/
namespace Go.Proofs.Yteeghncofacmhaa.Q
open Go.RowKit Go.Proofs.YteeghncofacmhaaW.PrintWords Go.Proofs.YteeghncofacmhaaW.PrintLast Go.Proofs.YteeghncofacmhaaW.PrintMore
attribute [local go_sem] max2_int min2_int max_two min_two max_three min_three max_four min_four
set_option linter.unusedVariables false
set_option linter.unusedSimpArgs false
def idxOf (p : S71 → Bool) (xs : List S71) : Int := match xs.findIdx? p with | some k => (k : Int) | none => -1
def arcOf (n : Int) (l : List Ch) (i : Int) : Int := idxOf (fun r => r.f2.contains i) (regs n l)
def impl_RegionOfArc.f (a0 : Int) (l1 : List S64) (a2 : Int) : Option (Int × Bool) := if l1.length ≤ 4611686018427387904 then some (if plane a0 l1 = true ∧ 0 ≤ a2 ∧ a2 ≤ a0 - 1 then (arcOf a0 l1 a2, true) else (0, false)) else none
theorem regs_mem {n : Int} {l : List Ch} {x : S71} (h : x ∈ regs n l) : ∃ q, q ∈ ids l ∧ x = rg (regOf n l q) := by
  unfold regs at h
  rw [List.mem_mergeSort, List.mem_map] at h
  obtain ⟨q, h1, h2⟩ := h
  exact ⟨q, h1, h2.symm⟩
theorem fw_len (l : List Ch) (hi : Int) (ex : Option Ch) : ∀ (m : Nat) (a : Int), (fw l hi ex m a).1.length ≤ m ∧ (fw l hi ex m a).2.1.length ≤ m ∧ (fw l hi ex m a).2.2.length ≤ m
  | 0, a => by simp [fw]
  | m + 1, a => by
    simp only [fw]
    split
    · split
      · obtain ⟨h1, h2, h3⟩ := fw_len l hi ex m (nextOf hi ex a l a)
        simp only [List.length_cons]; omega
      · obtain ⟨h1, h2, h3⟩ := fw_len l hi ex m (a + 1)
        simp only [List.length_cons]; omega
    · simp
theorem regs_small {n : Int} {l : List Ch} (h : plane n l = true) {x : S71} (hx : x ∈ regs n l) : x.f0.length ≤ 100 ∧ x.f1.length ≤ 100 ∧ x.f2.length ≤ 100 := by
  obtain ⟨q, hq, rfl⟩ := regs_mem hx
  have hn := good_n (plane_good h)
  have hlo := lo_in (plane_nc h) (by omega) (mem_ids.1 hq)
  show (regOf n l q).1.length ≤ 100 ∧ (regOf n l q).2.1.length ≤ 100 ∧ (regOf n l q).2.2.length ≤ 100
  rw [regOf_eq]
  have hf := fw_len l (hiOf n q) q (hiOf n q - loOf q).toNat (loOf q)
  have hm : (hiOf n q - loOf q).toNat ≤ 60 := by omega
  cases q <;> simp only [List.length_cons, List.length_append, List.length_nil] <;> omega
end Go.Proofs.Yteeghncofacmhaa.Q
end
section
namespace Go.Proofs.Yteeghncofacmhaa.Q
open Go.RowKit Go.Proofs.YteeghncofacmhaaW.PrintWords Go.Proofs.YteeghncofacmhaaW.PrintLast Go.Proofs.YteeghncofacmhaaW.PrintMore
attribute [local go_sem] max2_int min2_int max_two min_two max_three min_three max_four min_four   -- for this text's walks alone
set_option linter.unusedVariables false
set_option linter.unusedSimpArgs false
/-! ### laws_szChordS: function 10 -/
def laws_szChordS.f (l0 : List (S66)) (a1 : Int) : Option (Int) := if (wrap64 (a1 - (l0.length : Int))) < 0 then (some (-1)) else (some (wrap64 (a1 - (l0.length : Int))))
set_option maxHeartbeats 8000000 in
set_option maxRecDepth 100000 in
theorem laws_szChordS.calls (A0 : Option Addr) (c0 : Nat) (l0 : List (S66)) (a1 : Int) (r : Int) (w : World) (hr0 : Kd.C k66 w A0 l0.length l0) (hc0 : l0.length ≤ c0) (h : laws_szChordS.f l0 a1 = some r) :
    Calls Try.prog 10 #[.slice A0 l0.length c0, .int .i64 a1] w fun e w' => e = .returned (.int .i64 r) ∧ Drawn0 w w' := by
  have HR0 := Aside0.mk hr0
  have HC0 := Aside0.mk hc0
  clear hr0 hc0
  have H : (if (wrap64 (a1 - (l0.length : Int))) < 0 then (some (-1)) else (some (wrap64 (a1 - (l0.length : Int))))) = some r := h
  clear h
  by_cases c3 : (wrap64 (a1 - (l0.length : Int))) < 0
  · rw [if_pos c3] at H
    have c3b0 : decide ((wrap64 (a1 - (l0.length : Int))) < 0) = true := decide_eq_true c3
    clear c3
    obtain rfl := Option.some.inj H
    go_enter Try.func10, Try.ntmps10
    go_wp2
    go_ret
    exact ⟨by first | rfl | (simp; done) | (simp [*]; done), by repeat (first | exact Drawn0.refl _ | apply Drawn0.step)⟩
  · rw [if_neg c3] at H
    have c3b0 : decide ((wrap64 (a1 - (l0.length : Int))) < 0) = false := decide_eq_false c3
    clear c3
    obtain rfl := Option.some.inj H
    go_enter Try.func10, Try.ntmps10
    go_wp2
    go_ret
    exact ⟨by first | rfl | (simp; done) | (simp [*]; done), by repeat (first | exact Drawn0.refl _ | apply Drawn0.step)⟩
end Go.Proofs.Yteeghncofacmhaa.Q
end
section
namespace Go.Proofs.Yteeghncofacmhaa.Q
open Go.RowKit Go.Proofs.YteeghncofacmhaaW.PrintWords Go.Proofs.YteeghncofacmhaaW.PrintLast Go.Proofs.YteeghncofacmhaaW.PrintMore
attribute [local go_sem] max2_int min2_int max_two min_two max_three min_three max_four min_four   -- for this text's walks alone
set_option linter.unusedVariables false
set_option linter.unusedSimpArgs false
/-! ### laws_toChord: function 58 -/
def laws_toChord.f (a0_0 : Int) (a0_1 : Int) : Option (Int × Int) := some (a0_0, a0_1)
set_option maxHeartbeats 8000000 in
set_option maxRecDepth 100000 in
theorem laws_toChord.calls (a0_0 : Int) (a0_1 : Int) (r1 : Int) (r2 : Int) (w : World) (h : laws_toChord.f a0_0 a0_1 = some (r1, r2)) :
    Calls Try.prog 58 #[.agg #[.int .i64 a0_0, .int .i64 a0_1]] w fun e w' => e = .returned (.agg #[.int .i64 r1, .int .i64 r2]) ∧ Below w.heap.size w w' := by
  have hu66 := Try.underlying66
  have hu64 := Try.underlying64
  have HB := Aside0.mk (Below.refl w.heap.size w)
  have H : (some (a0_0, a0_1)) = some (r1, r2) := h
  clear h
  simp only [Option.some.injEq, Prod.mk.injEq] at H
  obtain ⟨rfl, rfl⟩ := H
  go_enter Try.func58, Try.ntmps58
  go_wp2_with (first | ((with_reducible refine gate_dst (N := 1) rfl ?_); refine box_event ?hg (N := 1) ?hd (cs := #[.int .i64 a0_0, .int .i64 a0_1]) (t := 66) ?hr ?_; (case hd => rfl); (case hg => rfl); (case hr => first | (go_simp; done) | (go_simp; rfl)); intro gb101 hg w2 hbox hb; have n0_ := Aside0.mk (below_step (by repeat (first | (with_reducible first | exact HB.out | apply below_alloc | apply pw_below_drewN | apply below_drew1) | exact HB.out)) hb); have n1_ := Aside0.mk (hbox); have n2_ := Aside0.mk ((by rw [hg]; exact (below_size (by repeat (first | (with_reducible first | exact HB.out | apply below_alloc | apply pw_below_drewN | apply below_drew1) | exact HB.out))) : w.heap.size ≤ gb101)); have n3_ := Aside0.mk ((by rw [hg]; exact (below_size (by repeat (first | (with_reducible first | exact HB.out | apply below_alloc | apply pw_below_drewN | apply below_drew1) | exact HB.out))) : w.heap.size ≤ gb101)); clear HB; have HB := n0_; have BK101 := n1_; have GW101 := n2_; have GE101 := n3_; clear n0_ n1_ n2_ n3_; clear hb hbox hg) | ((with_reducible refine gate_dst (N := 2) rfl ?_); refine box_event ?hg (N := 2) ?hd (cs := #[.int .i64 0, .int .i64 0]) (t := 64) ?hr ?_; (case hd => rfl); (case hg => rfl); (case hr => first | (go_simp; done) | (go_simp; rfl)); intro gb102 hg w3 hbox hb; have n0_ := Aside0.mk (blk_below (g := gb101) (o := .cells #[.int .i64 a0_0, .int .i64 a0_1] 66 (0, 0)) (by (with_reducible repeat (first | refine blk_drewN ?_ _ | refine blk_drew ?_ | refine blk_alloc ?_ _)); exact BK101.out) hb); have n1_ := Aside0.mk (below_step (by repeat (first | (with_reducible first | exact HB.out | apply below_alloc | apply pw_below_drewN | apply below_drew1 | refine below_set ?_ GE101.out) | exact HB.out)) hb); have n2_ := Aside0.mk (hbox); have n3_ := Aside0.mk ((by rw [hg]; exact (below_size (by repeat (first | (with_reducible first | exact HB.out | apply below_alloc | apply pw_below_drewN | apply below_drew1 | refine below_set ?_ GE101.out) | exact HB.out))) : w.heap.size ≤ gb102)); have n4_ := Aside0.mk ((by rw [hg]; exact (below_size (by repeat (first | (with_reducible first | exact HB.out | apply below_alloc | apply pw_below_drewN | apply below_drew1 | refine below_set ?_ GE101.out) | exact HB.out))) : w.heap.size ≤ gb102)); have n5_ := Aside0.mk ((by rw [hg]; exact Nat.ne_of_lt (blk_lt (g := gb101) (o := .cells #[.int .i64 a0_0, .int .i64 a0_1] 66 (0, 0)) (by (with_reducible repeat (first | refine blk_drewN ?_ _ | refine blk_drew ?_ | refine blk_alloc ?_ _)); exact BK101.out)) : gb101 ≠ gb102)); have n6_ := Aside0.mk ((by rw [hg]; exact Nat.ne_of_gt (blk_lt (g := gb101) (o := .cells #[.int .i64 a0_0, .int .i64 a0_1] 66 (0, 0)) (by (with_reducible repeat (first | refine blk_drewN ?_ _ | refine blk_drew ?_ | refine blk_alloc ?_ _)); exact BK101.out)) : gb102 ≠ gb101)); clear BK101; clear HB; have BK101 := n0_; have HB := n1_; have BK102 := n2_; have GW102 := n3_; have GE102 := n4_; have NB101_102 := n5_; have NB102_101 := n6_; clear n0_ n1_ n2_ n3_ n4_ n5_ n6_; clear hb hbox hg) | ((with_reducible refine gate_dst (N := 3) rfl ?_); refine box_event ?hg (N := 3) ?hd (cs := #[.int .i64 0, .int .i64 0]) (t := 64) ?hr ?_; (case hd => rfl); (case hg => rfl); (case hr => first | (go_simp; done) | (go_simp; rfl)); intro gb103 hg w4 hbox hb; have n0_ := Aside0.mk (blk_below (g := gb101) (o := .cells #[.int .i64 a0_0, .int .i64 a0_1] 66 (0, 0)) (by (with_reducible repeat (first | refine blk_drewN ?_ _ | refine blk_drew ?_ | refine blk_alloc ?_ _)); exact BK101.out) hb); have n1_ := Aside0.mk (blk_below (g := gb102) (o := .cells #[.int .i64 0, .int .i64 0] 64 (0, 0)) (by (with_reducible repeat (first | refine blk_drewN ?_ _ | refine blk_drew ?_ | refine blk_alloc ?_ _)); exact BK102.out) hb); have n2_ := Aside0.mk (below_step (by repeat (first | (with_reducible first | exact HB.out | apply below_alloc | apply pw_below_drewN | apply below_drew1 | refine below_set ?_ GE101.out | refine below_set ?_ GE102.out) | exact HB.out)) hb); have n3_ := Aside0.mk (hbox); have n4_ := Aside0.mk ((by rw [hg]; exact (below_size (by repeat (first | (with_reducible first | exact HB.out | apply below_alloc | apply pw_below_drewN | apply below_drew1 | refine below_set ?_ GE101.out | refine below_set ?_ GE102.out) | exact HB.out))) : w.heap.size ≤ gb103)); have n5_ := Aside0.mk ((by rw [hg]; exact (below_size (by repeat (first | (with_reducible first | exact HB.out | apply below_alloc | apply pw_below_drewN | apply below_drew1 | refine below_set ?_ GE101.out | refine below_set ?_ GE102.out) | exact HB.out))) : w.heap.size ≤ gb103)); have n6_ := Aside0.mk ((by rw [hg]; exact Nat.ne_of_lt (blk_lt (g := gb101) (o := .cells #[.int .i64 a0_0, .int .i64 a0_1] 66 (0, 0)) (by (with_reducible repeat (first | refine blk_drewN ?_ _ | refine blk_drew ?_ | refine blk_alloc ?_ _)); exact BK101.out)) : gb101 ≠ gb103)); have n7_ := Aside0.mk ((by rw [hg]; exact Nat.ne_of_gt (blk_lt (g := gb101) (o := .cells #[.int .i64 a0_0, .int .i64 a0_1] 66 (0, 0)) (by (with_reducible repeat (first | refine blk_drewN ?_ _ | refine blk_drew ?_ | refine blk_alloc ?_ _)); exact BK101.out)) : gb103 ≠ gb101)); have n8_ := Aside0.mk ((by rw [hg]; exact Nat.ne_of_lt (blk_lt (g := gb102) (o := .cells #[.int .i64 0, .int .i64 0] 64 (0, 0)) (by (with_reducible repeat (first | refine blk_drewN ?_ _ | refine blk_drew ?_ | refine blk_alloc ?_ _)); exact BK102.out)) : gb102 ≠ gb103)); have n9_ := Aside0.mk ((by rw [hg]; exact Nat.ne_of_gt (blk_lt (g := gb102) (o := .cells #[.int .i64 0, .int .i64 0] 64 (0, 0)) (by (with_reducible repeat (first | refine blk_drewN ?_ _ | refine blk_drew ?_ | refine blk_alloc ?_ _)); exact BK102.out)) : gb103 ≠ gb102)); clear BK101; clear BK102; clear HB; have BK101 := n0_; have BK102 := n1_; have HB := n2_; have BK103 := n3_; have GW103 := n4_; have GE103 := n5_; have NB101_103 := n6_; have NB103_101 := n7_; have NB102_103 := n8_; have NB103_102 := n9_; clear n0_ n1_ n2_ n3_ n4_ n5_ n6_ n7_ n8_ n9_; clear hb hbox hg; have hnb5 := NB101_102.out; have hnc5 := NB102_101.out; have hnb6 := NB101_103.out; have hnc6 := NB103_101.out; have hcz7_0 : w4.cell? ⟨gb101, 0, none⟩ = some (.int .i64 a0_0) := (blk_cell BK101.out 0).trans rfl; have hcz7_1 : w4.cell? ⟨gb101, 1, none⟩ = some (.int .i64 a0_1) := (blk_cell BK101.out 1).trans rfl; have hfz7_0 := blk_frozen BK101.out 0; have hfz7_1 := blk_frozen BK101.out 1; have hnb8 := NB103_102.out; have hnc8 := NB102_103.out; have hcz9_0 : w4.cell? ⟨gb103, 0, none⟩ = some (.int .i64 0) := (blk_cell BK103.out 0).trans rfl; have hcz9_1 : w4.cell? ⟨gb103, 1, none⟩ = some (.int .i64 0) := (blk_cell BK103.out 1).trans rfl; have hfz9_0 := blk_frozen BK103.out 0; have hfz9_1 := blk_frozen BK103.out 1; have hcz10_0 : w4.cell? ⟨gb102, 0, none⟩ = some (.int .i64 0) := (blk_cell BK102.out 0).trans rfl; have hcz10_1 : w4.cell? ⟨gb102, 1, none⟩ = some (.int .i64 0) := (blk_cell BK102.out 1).trans rfl; have hfz10_0 := blk_frozen BK102.out 0; have hfz10_1 := blk_frozen BK102.out 1))
  refine bodyPost_ret (results_cell_row rfl _ _ gb102 64 #[.int .i64 a0_0, .int .i64 a0_1] (0, 0) _ rfl (by (with_reducible repeat (first | refine blk_drewN ?_ _ | refine blk_drew ?_ | refine blk_alloc ?_ _)); refine blk_put (cs := #[.int .i64 a0_0, .int .i64 0]) ?_ 1 _ rfl; (with_reducible repeat (first | refine blk_drewN ?_ _ | refine blk_drew ?_ | refine blk_alloc ?_ _)); refine blk_put (cs := #[.int .i64 0, .int .i64 0]) ?_ 0 _ rfl; (with_reducible repeat (first | refine blk_drewN ?_ _ | refine blk_drew ?_ | refine blk_alloc ?_ _)); refine blk_far ?_ NB102_103.out _; (with_reducible repeat (first | refine blk_drewN ?_ _ | refine blk_drew ?_ | refine blk_alloc ?_ _)); refine blk_far ?_ NB102_103.out _; (with_reducible repeat (first | refine blk_drewN ?_ _ | refine blk_drew ?_ | refine blk_alloc ?_ _)); exact BK102.out) Try.underlying64 rfl (by kernel_rfl)) rfl ?_
  exact ⟨by first | rfl | (simp [errW_none, errW_some] <;> rfl) | (simp [*, errW_none, errW_some] <;> rfl), by repeat (first | (with_reducible first | exact HB.out | apply below_alloc | apply pw_below_drewN | apply below_drew1 | refine below_set ?_ GE101.out | refine below_set ?_ GE102.out | refine below_set ?_ GE103.out) | exact HB.out)⟩
end Go.Proofs.Yteeghncofacmhaa.Q
end
section
namespace Go.Proofs.Yteeghncofacmhaa.Q
open Go.RowKit Go.Proofs.YteeghncofacmhaaW.PrintWords Go.Proofs.YteeghncofacmhaaW.PrintLast Go.Proofs.YteeghncofacmhaaW.PrintMore
attribute [local go_sem] max2_int min2_int max_two min_two max_three min_three max_four min_four   -- for this text's walks alone
set_option linter.unusedVariables false
set_option linter.unusedSimpArgs false
/-! ### laws_toChordS: function 12 -/
def laws_toChordS.l0 : Nat → List (S66) → List (S64) → Int → Option ((List (S64)))
  | 0, _, _, _ => none
  | k + 1, x0, x3, x4 => if x4 < (x0.length : Int) then (if 0 ≤ x4 then ((laws_toChord.f ((rd_T66 x0 x4).f0) ((rd_T66 x0 x4).f1)).bind fun bt105 => (if x4 < (x3.length : Int) then (laws_toChordS.l0 k x0 (x3.set (x4 : Int).toNat (⟨bt105.1, bt105.2⟩ : S64)) (wrap64 (x4 + 1))) else (none))) else (none)) else (some x3)
def laws_toChordS.f (k : Nat) (l0 : List (S66)) : Option ((List (S64))) := if 0 ≤ (l0.length : Int) then (if ((l0.length : Int) : Int).toNat ≤ 17592186044416 then (laws_toChordS.l0 k l0 (List.replicate ((l0.length : Int) : Int).toNat z64) 0) else (none)) else (none)
set_option maxHeartbeats 8000000 in
set_option maxRecDepth 100000 in
theorem laws_toChordS.calls (k : Nat) (A0 : Option Addr) (c0 : Nat) (l0 : List (S66)) (r : List (S64)) (w : World) (hr0 : Kd.C k66 w A0 l0.length l0) (hc0 : l0.length ≤ c0) (h : laws_toChordS.f k l0 = some r) :
    Calls Try.prog 12 #[.slice A0 l0.length c0] w fun e w' => ∃ v0_ : Value, e = .returned (v0_) ∧ Kd.R k64 64 w' w.heap.size (fun _ => True) v0_ r ∧ Below w.heap.size w w' := by
  have hu66 := Try.underlying66
  have hu64 := Try.underlying64
  have HR0 := Aside0.mk hr0
  have HC0 := Aside0.mk hc0
  clear hr0 hc0
  have HB := Aside0.mk (Below.refl w.heap.size w)
  have H : (if 0 ≤ (l0.length : Int) then (if ((l0.length : Int) : Int).toNat ≤ 17592186044416 then (laws_toChordS.l0 k l0 (List.replicate ((l0.length : Int) : Int).toNat z64) 0) else (none)) else (none)) = some r := h
  clear h
  by_cases c2 : 0 ≤ (l0.length : Int)
  · rw [if_pos c2] at H
    have c2b0 := eq_true c2
    have c2b1 : decide (0 ≤ (l0.length : Int)) = true := decide_eq_true c2
    clear c2
    by_cases c3 : ((l0.length : Int) : Int).toNat ≤ 17592186044416
    · rw [if_pos c3] at H
      have c3b0 := eq_true c3
      have c3b1 : decide (((l0.length : Int) : Int).toNat ≤ 17592186044416) = true := decide_eq_true c3
      clear c3
      obtain ⟨y101, hy101⟩ : ∃ y_ : List (S64), y_ = (List.replicate ((l0.length : Int) : Int).toNat z64) := ⟨_, rfl⟩
      replace H : (laws_toChordS.l0 k l0 y101 0) = some r := by first | (rw [hy101]; with_reducible exact H) | (have H2_ := (Option.bind_some _ _).symm.trans H; rw [hy101]; with_reducible exact H2_) | (have H2_ := (Option.bind_some _ _).symm.trans H; with_reducible exact H2_) | with_reducible exact H | (rw [hy101]; exact H) | exact H
      have Ny101 := Aside0.mk hy101
      clear hy101
      have H' := Aside0.mk H
      clear H
      go_enter Try.func12, Try.ntmps12
      go_wp2_with (first | ((with_reducible refine gate_dst (N := 7) rfl ?_); refine Kd.R_make k64 _ 64 rfl (N := 7) rfl 27 _ _ rfl (l0.length : Int) rfl rfl Try.underlying27 (.agg #[(.int .i64 0), (.int .i64 0)]) 16 info64 rfl (by decide) (by omega) z64 (ok := fun _ => True) (okp := fun _ => True) (k64_mkM _ _ _ z64 ) (fun _ hk => hk) trivial (of_decide_eq_true (by first | (with_reducible assumption) | assumption)) (Nat.le_trans (Nat.mul_le_mul_right _ (of_decide_eq_true (by first | (with_reducible assumption) | assumption) : (l0.length : Int).toNat ≤ 17592186044416)) (by omega)) (Below.refl _ _) (Nat.le_refl _) ?_; intro v102 w4 ho5 hb hg_ hnew_; clear hg_ hnew_; (first | rw [← Ny101.out] at ho5 | (simp only [Int.reduceToNat] at ho5; rw [← Ny101.out] at ho5)); have n0_ := Aside0.mk (Kd.R_lower ho5 (below_size (by repeat (first | (with_reducible first | exact HB.out | apply below_alloc | apply pw_below_drewN | apply below_drew1) | exact HB.out)))); have n1_ := Aside0.mk (below_step (by repeat (first | (with_reducible first | exact HB.out | apply below_alloc | apply pw_below_drewN | apply below_drew1) | exact HB.out)) hb); clear HB; have HO103 := n0_; have HB := n1_; clear n0_ n1_; clear hb ho5))
      go_loopg [4] k (fun kq v4 w' => ∃ (x3_1 : List (S64)) (x4_1 : Int), v4 = .int .i64 x4_1 ∧ Aside0 (laws_toChordS.l0 kq l0 x3_1 x4_1 = some r) ∧ Aside0 (kq ≤ k) ∧ Aside0 (Kd.R k64 64 w' w.heap.size (fun _ => True) v102 x3_1) ∧ Aside0 (Below w.heap.size w w'))
      case atStart => exact ⟨(y101), (0), (by first | rfl | (simp; done) | (simp [*]; done)), H', ⟨Nat.le_refl _⟩, ⟨by (with_reducible repeat (first | apply Kd.R_alloc | apply Kd.R_drewN | apply Kd.R_drew)); exact HO103.out⟩, ⟨by repeat (first | (with_reducible first | exact HB.out | apply below_alloc | apply pw_below_drewN | apply below_drew1) | exact HB.out)⟩⟩
      case round =>
        clear H'
        try clear c1
        try clear c2
        try clear c2b0
        try clear c2b1
        try clear p2
        try clear c3
        try clear c3b0
        try clear c3b1
        obtain ⟨x3_1, x4_1, rfl, HA, HK1, HO_3, HB⟩ := hrel
        cases gk with
        | zero => exact absurd HA.out (by simp [laws_toChordS.l0])
        | succ k1 =>
          have H := HA.out
          clear HA
          simp only [laws_toChordS.l0] at H
          by_cases c6 : x4_1 < (l0.length : Int)
          · rw [if_pos c6] at H
            have c6b0 : decide (x4_1 < (l0.length : Int)) = true := decide_eq_true c6
            clear c6
            by_cases c7 : 0 ≤ x4_1
            · rw [if_pos c7] at H
              have c7b0 : decide (0 ≤ x4_1) = true := decide_eq_true c7
              clear c7
              replace H := Option.bind_eq_some_iff.mp H
              obtain ⟨⟨t105, t106⟩, A80, H⟩ := H
              replace H : (if x4_1 < (x3_1.length : Int) then (laws_toChordS.l0 k1 l0 (x3_1.set (x4_1 : Int).toNat (⟨t105, t106⟩ : S64)) (wrap64 (x4_1 + 1))) else (none)) = some r := H
              have A8 := Aside0.mk A80
              clear A80
              by_cases c9 : x4_1 < (x3_1.length : Int)
              · rw [if_pos c9] at H
                have c9b0 : decide (x4_1 < (x3_1.length : Int)) = true := decide_eq_true c9
                clear c9
                obtain ⟨y107, hy107⟩ : ∃ y_ : List (S64), y_ = (x3_1.set (x4_1 : Int).toNat (⟨t105, t106⟩ : S64)) := ⟨_, rfl⟩
                replace H : (laws_toChordS.l0 k1 l0 y107 (wrap64 (x4_1 + 1))) = some r := by first | (rw [hy107]; with_reducible exact H) | (have H2_ := (Option.bind_some _ _).symm.trans H; rw [hy107]; with_reducible exact H2_) | (have H2_ := (Option.bind_some _ _).symm.trans H; with_reducible exact H2_) | with_reducible exact H | (rw [hy107]; exact H) | exact H
                have Ny107 := Aside0.mk hy107
                clear hy107
                have H' := Aside0.mk H
                clear H
                have p104 : 0 ≤ (x4_1 : Int) := of_decide_eq_true (by first | (with_reducible assumption) | assumption)
                have q104 : x4_1 < (l0.length : Int) := of_decide_eq_true (by first | (with_reducible assumption) | assumption)
                obtain ⟨ad104, e104, hx104_0, hx104_1⟩ := at_T66 HR0.out x4_1 p104 q104
                cases e104
                try replace hx104_0 := (HB.out.cell (World.block_lt_of_cell? w _ hx104_0)).trans hx104_0
                try replace hx104_1 := (HB.out.cell (World.block_lt_of_cell? w _ hx104_1)).trans hx104_1
                replace p104 := eq_true p104
                replace q104 := eq_true q104
                go_wp2_with (first | ((with_reducible refine gate_callee (f := 58) rfl ?_); refine goesL_ (some 20) rfl rfl Try.func58 (by kernel_rfl) rfl #[.agg #[.int .i64 ((rd_T66 l0 x4_1).f0), .int .i64 ((rd_T66 l0 x4_1).f1)]] rfl (by (try simp only [List.map_toArray, List.map_cons, List.map_nil]); first | done | rfl | (simp only [List.length_drop, List.length_take]; rfl)) ?_; (with_reducible refine (laws_toChord.calls ((rd_T66 l0 x4_1).f0) ((rd_T66 l0 x4_1).f1) t105 t106 _ A8.out).mono ?_); rintro e w11 ⟨rfl, hb⟩; refine ⟨_, rfl, ?_⟩; have n0_ := Aside0.mk (Kd.R_below (by (with_reducible repeat (first | apply Kd.R_alloc | apply Kd.R_drewN | apply Kd.R_drew)); exact HO_3.out) hb); have n1_ := Aside0.mk (below_step (by repeat (first | (with_reducible first | exact HB.out | apply below_alloc | apply pw_below_drewN | apply below_drew1) | exact HB.out)) hb); clear HO_3; clear HB; have HO_3 := n0_; have HB := n1_; clear n0_ n1_; (try clear hb); (try clear hb2); (try clear hk); (try clear hi); have p10 : 0 ≤ (x4_1 : Int) := of_decide_eq_true (by first | (with_reducible assumption) | assumption); have q10 : (x4_1 : Int) < ((x3_1.length : Int) : Int) := of_decide_eq_true (by first | (with_reducible assumption) | assumption); obtain ⟨go10, co10, eo10, gb10, gl10, cl10, HG10⟩ := Kd.R_form HO_3.out (by omega); (first | cases eo10 | (injection eo10 with ea_ en_ ec_; (first | subst ea_ | (injection ea_ with ea_; subst ea_)); subst ec_; clear en_)); have GB10 := Aside0.mk gb10; have GG10 := Aside0.mk HG10; clear gb10 gl10 HG10; obtain ⟨ce10, hcl10, hM10, hcc10, hfr10⟩ := Kd.R_elem HO_3.out z64 (x4_1 : Int) p10 q10; obtain rfl := k64_openM hM10; have hx10_0 : w11.cell? ⟨go10, (x4_1 : Int).toNat * 2, none⟩ = some (.int .i64 ((rd_T64 x3_1 x4_1).f0)) := hcc10 0 _ rfl; have hx10_1 : w11.cell? ⟨go10, (x4_1 : Int).toNat * 2 + 1, none⟩ = some (.int .i64 ((rd_T64 x3_1 x4_1).f1)) := hcc10 1 _ rfl; have hf10_0 : w11.frozen? ⟨go10, (x4_1 : Int).toNat * 2, none⟩ = false := hfr10 0; have hf10_1 : w11.frozen? ⟨go10, (x4_1 : Int).toNat * 2 + 1, none⟩ = false := hfr10 1; clear hcl10 hcc10 hfr10 hM10; replace p10 := eq_true p10; replace q10 := eq_true q10; have HX12 := Aside0.mk (show Kd.R k64 64 w11 w.heap.size (fun _ => True) (.slice (some ⟨go10, 0, none⟩) x3_1.length co10) x3_1 from (by (with_reducible repeat (first | apply Kd.R_alloc | apply Kd.R_drewN | apply Kd.R_drew)); exact HO_3.out)); obtain ⟨ce12, hcl12, hM12, hcc12, hfr12⟩ := Kd.R_elem HX12.out z64 (x4_1 : Int) (of_decide_eq_true (by first | (with_reducible assumption) | assumption)) (by have h_ : (x4_1 : Int) < ((x3_1.length : Int) : Int) := of_decide_eq_true (by first | (with_reducible assumption) | assumption); first | exact h_ | (have e_ := (Kd.R_reads' HO_3.out).1; omega) | simpa using h_); obtain rfl := k64_openM hM12; have HP12 := Kd.R_seg HX12.out (x4_1 : Int) (of_decide_eq_true (by first | (with_reducible assumption) | assumption)) (by have h_ : (x4_1 : Int) < ((x3_1.length : Int) : Int) := of_decide_eq_true (by first | (with_reducible assumption) | assumption); first | exact h_ | (have e_ := (Kd.R_reads' HO_3.out).1; omega) | simpa using h_) (seg := [.int .i64 t105, .int .i64 t106]) (j := 0) hcl12 hcc12 (show 2 ≤ 2 from by decide) (x' := (⟨t105, t106⟩ : S64)) (k64_mkM _ _ _ (⟨t105, t106⟩ : S64) ) (fun _ hk => hk); have hx12_0 := hcc12 0 _ rfl; (try simp only [show (k64).sz = 2 from rfl, Nat.mul_one, Nat.add_zero] at hx12_0); have hf12_0 := hfr12 0; (try simp only [show (k64).sz = 2 from rfl, Nat.mul_one, Nat.add_zero] at hf12_0); have hx12_1 := hcc12 1 _ rfl; (try simp only [show (k64).sz = 2 from rfl, Nat.mul_one, Nat.add_zero] at hx12_1); have hf12_1 := hfr12 1; (try simp only [show (k64).sz = 2 from rfl, Nat.mul_one, Nat.add_zero] at hf12_1); clear hcl12 hcc12 hfr12 hM12) | ((with_reducible refine gate_store (t := 64) (p := 21) rfl ?_); refine store_event (t := 64) (p := 21) (v := ?vo_w13) (w1 := ((w11.setCell ⟨go10, (x4_1 : Int).toNat * 2, none⟩ (.int .i64 t105)).setCell ⟨go10, (x4_1 : Int).toNat * 2 + 1, none⟩ (.int .i64 t106))) ?hg ?ho ?hn ?hr ?_; (case ho => rfl); (case hg => rfl); (case hn => rfl); (case hr => first | (go_simp; done) | (go_simp; rfl)); intro w13 hw; have hg : w11.grownBy w13 (some go10) := (by rw [hw]; exact HP12.2); have hp_ : Kd.R k64 64 w13 w.heap.size (fun _ => True) (.slice (some ⟨go10, 0, none⟩) x3_1.length co10) y107 := (by rw [hw, Ny107.out]; exact HP12.1); clear HP12; have n0_ := Aside0.mk (hp_); have n1_ := Aside0.mk ((by rw [hw]; exact below_set (below_set (HB.out) GB10.out) GB10.out : Below w.heap.size w w13)); clear HO_3; clear HB; have HO_3 := n0_; have HB := n1_; clear n0_ n1_; clear hg hw hp_))
                go_roundg k1
                case measure => have := HK1.out; omega
                case rel => exact ⟨(y107), (wrap64 (x4_1 + 1)), (by first | rfl | (simp; done) | (simp [*]; done)), H', ⟨by have := HK1.out; omega⟩, ⟨by (with_reducible repeat (first | apply Kd.R_alloc | apply Kd.R_drewN | apply Kd.R_drew)); exact HO_3.out⟩, ⟨by repeat (first | (with_reducible first | exact HB.out | apply below_alloc | apply pw_below_drewN | apply below_drew1) | exact HB.out)⟩⟩
              · rw [if_neg c9] at H
                exact absurd H (by simp)
            · rw [if_neg c7] at H
              exact absurd H (by simp)
          · rw [if_neg c6] at H
            have c6b0 : decide (x4_1 < (l0.length : Int)) = false := decide_eq_false c6
            clear c6
            obtain rfl := Option.some.inj H
            go_wp2
            go_ret
            exact ⟨_, by first | rfl | (simp [errW_none, errW_some] <;> rfl) | (simp [*, errW_none, errW_some] <;> rfl), by (with_reducible repeat (first | apply Kd.R_alloc | apply Kd.R_drewN | apply Kd.R_drew)); exact HO_3.out, by repeat (first | (with_reducible first | exact HB.out | apply below_alloc | apply pw_below_drewN | apply below_drew1) | exact HB.out)⟩
    · rw [if_neg c3] at H
      exact absurd H (by simp)
  · rw [if_neg c2] at H
    exact absurd H (by simp)
end Go.Proofs.Yteeghncofacmhaa.Q
end
section
namespace Go.Proofs.Yteeghncofacmhaa.Q
open Go.RowKit Go.Proofs.YteeghncofacmhaaW.PrintWords Go.Proofs.YteeghncofacmhaaW.PrintLast Go.Proofs.YteeghncofacmhaaW.PrintMore
attribute [local go_sem] max2_int min2_int max_two min_two max_three min_three max_four min_four   -- for this text's walks alone
set_option linter.unusedVariables false
set_option linter.unusedSimpArgs false
/-! ### laws_eqIntS: function 14 -/
def laws_eqIntS.l0 : Nat → List Int → List Int → Int → Option (Bool)
  | 0, _, _, _ => none
  | k + 1, x0, x1, x5 => if x5 < (x0.length : Int) then (if 0 ≤ x5 then (if x5 < (x1.length : Int) then (if (rd x0 x5) = (rd x1 x5) then (laws_eqIntS.l0 k x0 x1 (wrap64 (x5 + 1))) else (some false)) else (none)) else (none)) else (some true)
def laws_eqIntS.f (k : Nat) (l0 : List Int) (l1 : List Int) : Option (Bool) := if (l0.length : Int) = (l1.length : Int) then (laws_eqIntS.l0 k l0 l1 0) else (some false)
set_option maxHeartbeats 8000000 in
set_option maxRecDepth 100000 in
theorem laws_eqIntS.calls (k : Nat) (A0 : Option Addr) (c0 : Nat) (l0 : List Int) (A1 : Option Addr) (c1 : Nat) (l1 : List Int) (r : Bool) (w : World) (hr0 : Kd.C (Kd.int .i64) w A0 l0.length l0) (hc0 : l0.length ≤ c0) (hr1 : Kd.C (Kd.int .i64) w A1 l1.length l1) (hc1 : l1.length ≤ c1) (h : laws_eqIntS.f k l0 l1 = some r) :
    Calls Try.prog 14 #[.slice A0 l0.length c0, .slice A1 l1.length c1] w fun e w' => e = .returned (.bool r) ∧ Drawn0 w w' := by
  have HR0 := Aside0.mk hr0
  have HC0 := Aside0.mk hc0
  clear hr0 hc0
  have HR1 := Aside0.mk hr1
  have HC1 := Aside0.mk hc1
  clear hr1 hc1
  have H : (if (l0.length : Int) = (l1.length : Int) then (laws_eqIntS.l0 k l0 l1 0) else (some false)) = some r := h
  clear h
  by_cases c3 : (l0.length : Int) = (l1.length : Int)
  · rw [if_pos c3] at H
    have c3b0 : ((l0.length : Int) == (l1.length : Int)) = true := beq_iff_eq.mpr c3
    have c3b1 : ((l0.length : Int) != (l1.length : Int)) = false := bne_eq_false_iff_eq.mpr c3
    have c3b2 : (l0.length == l1.length) = true := by first | simpa using c3 | (simp at c3 ⊢; omega)
    clear c3
    have H' := Aside0.mk H
    clear H
    go_enter Try.func14, Try.ntmps14
    go_wp2
    repeat (go_quiet (fail); try go_wp2)
    go_loopg [5] k (fun kq v5 w' => ∃ (x5_1 : Int), v5 = .int .i64 x5_1 ∧ Aside0 (laws_eqIntS.l0 kq l0 l1 x5_1 = some r) ∧ Aside0 (kq ≤ k) ∧ Drawn0 w w')
    case atStart => exact ⟨(0), (by first | rfl | (simp; done) | (simp [*]; done)), H', ⟨Nat.le_refl _⟩, by repeat (first | exact Drawn0.refl _ | apply Drawn0.step)⟩
    case round =>
      clear H'
      try clear c1
      try clear p2
      try clear c3
      try clear c3b0
      try clear c3b1
      try clear c3b2
      obtain ⟨x5_1, rfl, HA, HK1, ⟨m1, rfl⟩⟩ := hrel
      cases gk with
      | zero => exact absurd HA.out (by simp [laws_eqIntS.l0])
      | succ k1 =>
        have H := HA.out
        clear HA
        simp only [laws_eqIntS.l0] at H
        by_cases c4 : x5_1 < (l0.length : Int)
        · rw [if_pos c4] at H
          have c4b0 : decide (x5_1 < (l0.length : Int)) = true := decide_eq_true c4
          clear c4
          by_cases c5 : 0 ≤ x5_1
          · rw [if_pos c5] at H
            have c5b0 : decide (0 ≤ x5_1) = true := decide_eq_true c5
            clear c5
            by_cases c6 : x5_1 < (l1.length : Int)
            · rw [if_pos c6] at H
              have c6b0 : decide (x5_1 < (l1.length : Int)) = true := decide_eq_true c6
              clear c6
              by_cases c7 : (rd l0 x5_1) = (rd l1 x5_1)
              · rw [if_pos c7] at H
                have c7b0 : ((rd l0 x5_1) == (rd l1 x5_1)) = true := beq_iff_eq.mpr c7
                have c7b1 : ((rd l0 x5_1) != (rd l1 x5_1)) = false := bne_eq_false_iff_eq.mpr c7
                clear c7
                have H' := Aside0.mk H
                clear H
                have p101 : 0 ≤ (x5_1 : Int) := of_decide_eq_true (by first | (with_reducible assumption) | assumption)
                have q101 : x5_1 < (l0.length : Int) := of_decide_eq_true (by first | (with_reducible assumption) | assumption)
                obtain ⟨ad101, e101, hx101_0⟩ := Kd.at_int HR0.out x5_1 p101 q101
                cases e101
                replace p101 := eq_true p101
                replace q101 := eq_true q101
                have p102 : 0 ≤ (x5_1 : Int) := of_decide_eq_true (by first | (with_reducible assumption) | assumption)
                have q102 : x5_1 < (l1.length : Int) := of_decide_eq_true (by first | (with_reducible assumption) | assumption)
                obtain ⟨ad102, e102, hx102_0⟩ := Kd.at_int HR1.out x5_1 p102 q102
                cases e102
                replace p102 := eq_true p102
                replace q102 := eq_true q102
                go_wp2
                repeat (go_quiet (fail); try go_wp2)
                go_roundg k1
                case measure => have := HK1.out; omega
                case rel => exact ⟨(wrap64 (x5_1 + 1)), (by first | rfl | (simp; done) | (simp [*]; done)), H', ⟨by have := HK1.out; omega⟩, by repeat (first | exact Drawn0.refl _ | apply Drawn0.step)⟩
              · rw [if_neg c7] at H
                have c7b0 : ((rd l0 x5_1) == (rd l1 x5_1)) = false := beq_eq_false_iff_ne.mpr c7
                have c7b1 : ((rd l0 x5_1) != (rd l1 x5_1)) = true := bne_iff_ne.mpr c7
                obtain rfl := Option.some.inj H
                have p101 : 0 ≤ (x5_1 : Int) := of_decide_eq_true (by first | (with_reducible assumption) | assumption)
                have q101 : x5_1 < (l0.length : Int) := of_decide_eq_true (by first | (with_reducible assumption) | assumption)
                obtain ⟨ad101, e101, hx101_0⟩ := Kd.at_int HR0.out x5_1 p101 q101
                cases e101
                replace p101 := eq_true p101
                replace q101 := eq_true q101
                have p102 : 0 ≤ (x5_1 : Int) := of_decide_eq_true (by first | (with_reducible assumption) | assumption)
                have q102 : x5_1 < (l1.length : Int) := of_decide_eq_true (by first | (with_reducible assumption) | assumption)
                obtain ⟨ad102, e102, hx102_0⟩ := Kd.at_int HR1.out x5_1 p102 q102
                cases e102
                replace p102 := eq_true p102
                replace q102 := eq_true q102
                go_wp2
                repeat (go_quiet (fail); try go_wp2)
                go_ret
                exact ⟨by first | rfl | (simp; done) | (simp [*]; done), by repeat (first | exact Drawn0.refl _ | apply Drawn0.step)⟩
            · rw [if_neg c6] at H
              exact absurd H (by simp)
          · rw [if_neg c5] at H
            exact absurd H (by simp)
        · rw [if_neg c4] at H
          have c4b0 : decide (x5_1 < (l0.length : Int)) = false := decide_eq_false c4
          clear c4
          obtain rfl := Option.some.inj H
          go_wp2
          repeat (go_quiet (fail); try go_wp2)
          go_ret
          exact ⟨by first | rfl | (simp; done) | (simp [*]; done), by repeat (first | exact Drawn0.refl _ | apply Drawn0.step)⟩
  · rw [if_neg c3] at H
    have c3b0 : ((l0.length : Int) == (l1.length : Int)) = false := beq_eq_false_iff_ne.mpr c3
    have c3b1 : ((l0.length : Int) != (l1.length : Int)) = true := bne_iff_ne.mpr c3
    have c3b2 : (l0.length == l1.length) = false := by first | simpa using c3 | (simp at c3 ⊢; omega)
    obtain rfl := Option.some.inj H
    go_enter Try.func14, Try.ntmps14
    go_wp2
    repeat (go_quiet (fail); try go_wp2)
    go_ret
    exact ⟨by first | rfl | (simp; done) | (simp [*]; done), by repeat (first | exact Drawn0.refl _ | apply Drawn0.step)⟩
end Go.Proofs.Yteeghncofacmhaa.Q
end
section
namespace Go.Proofs.Yteeghncofacmhaa.Q
open Go.RowKit Go.Proofs.YteeghncofacmhaaW.PrintWords Go.Proofs.YteeghncofacmhaaW.PrintLast Go.Proofs.YteeghncofacmhaaW.PrintMore
attribute [local go_sem] max2_int min2_int max_two min_two max_three min_three max_four min_four   -- for this text's walks alone
set_option linter.unusedVariables false
set_option linter.unusedSimpArgs false
/-! ### laws_eqChord: function 60 -/
def laws_eqChord.f (a0_0 : Int) (a0_1 : Int) (a1_0 : Int) (a1_1 : Int) : Option (Bool) := if a0_0 = a1_0 then (if a0_1 = a1_1 then (some true) else (some false)) else (some false)
set_option maxHeartbeats 8000000 in
set_option maxRecDepth 100000 in
theorem laws_eqChord.calls (a0_0 : Int) (a0_1 : Int) (a1_0 : Int) (a1_1 : Int) (r : Bool) (w : World) (h : laws_eqChord.f a0_0 a0_1 a1_0 a1_1 = some r) :
    Calls Try.prog 60 #[.agg #[.int .i64 a0_0, .int .i64 a0_1], .agg #[.int .i64 a1_0, .int .i64 a1_1]] w fun e w' => e = .returned (.bool r) ∧ Below w.heap.size w w' := by
  have hu64 := Try.underlying64
  have HB := Aside0.mk (Below.refl w.heap.size w)
  have H : (if a0_0 = a1_0 then (if a0_1 = a1_1 then (some true) else (some false)) else (some false)) = some r := h
  clear h
  by_cases c3 : a0_0 = a1_0
  · rw [if_pos c3] at H
    have c3b0 : (a0_0 == a1_0) = true := beq_iff_eq.mpr c3
    have c3b1 : (a0_0 != a1_0) = false := bne_eq_false_iff_eq.mpr c3
    clear c3
    by_cases c4 : a0_1 = a1_1
    · rw [if_pos c4] at H
      have c4b0 : (a0_1 == a1_1) = true := beq_iff_eq.mpr c4
      have c4b1 : (a0_1 != a1_1) = false := bne_eq_false_iff_eq.mpr c4
      clear c4
      obtain rfl := Option.some.inj H
      go_enter Try.func60, Try.ntmps60
      go_wp2_with (first | ((with_reducible refine gate_dst (N := 2) rfl ?_); refine box_event ?hg (N := 2) ?hd (cs := #[.int .i64 a0_0, .int .i64 a0_1]) (t := 64) ?hr ?_; (case hd => rfl); (case hg => rfl); (case hr => first | (go_simp; done) | (go_simp; rfl)); intro gb101 hg w5 hbox hb; have n0_ := Aside0.mk (below_step (by repeat (first | (with_reducible first | exact HB.out | apply below_alloc | apply pw_below_drewN | apply below_drew1) | exact HB.out)) hb); have n1_ := Aside0.mk (hbox); have n2_ := Aside0.mk ((by rw [hg]; exact (below_size (by repeat (first | (with_reducible first | exact HB.out | apply below_alloc | apply pw_below_drewN | apply below_drew1) | exact HB.out))) : w.heap.size ≤ gb101)); have n3_ := Aside0.mk ((by rw [hg]; exact (below_size (by repeat (first | (with_reducible first | exact HB.out | apply below_alloc | apply pw_below_drewN | apply below_drew1) | exact HB.out))) : w.heap.size ≤ gb101)); clear HB; have HB := n0_; have BK101 := n1_; have GW101 := n2_; have GE101 := n3_; clear n0_ n1_ n2_ n3_; clear hb hbox hg) | ((with_reducible refine gate_dst (N := 3) rfl ?_); refine box_event ?hg (N := 3) ?hd (cs := #[.int .i64 a1_0, .int .i64 a1_1]) (t := 64) ?hr ?_; (case hd => rfl); (case hg => rfl); (case hr => first | (go_simp; done) | (go_simp; rfl)); intro gb102 hg w6 hbox hb; have n0_ := Aside0.mk (blk_below (g := gb101) (o := .cells #[.int .i64 a0_0, .int .i64 a0_1] 64 (0, 0)) (by (with_reducible repeat (first | refine blk_drewN ?_ _ | refine blk_drew ?_ | refine blk_alloc ?_ _)); exact BK101.out) hb); have n1_ := Aside0.mk (below_step (by repeat (first | (with_reducible first | exact HB.out | apply below_alloc | apply pw_below_drewN | apply below_drew1 | refine below_set ?_ GE101.out) | exact HB.out)) hb); have n2_ := Aside0.mk (hbox); have n3_ := Aside0.mk ((by rw [hg]; exact (below_size (by repeat (first | (with_reducible first | exact HB.out | apply below_alloc | apply pw_below_drewN | apply below_drew1 | refine below_set ?_ GE101.out) | exact HB.out))) : w.heap.size ≤ gb102)); have n4_ := Aside0.mk ((by rw [hg]; exact (below_size (by repeat (first | (with_reducible first | exact HB.out | apply below_alloc | apply pw_below_drewN | apply below_drew1 | refine below_set ?_ GE101.out) | exact HB.out))) : w.heap.size ≤ gb102)); have n5_ := Aside0.mk ((by rw [hg]; exact Nat.ne_of_lt (blk_lt (g := gb101) (o := .cells #[.int .i64 a0_0, .int .i64 a0_1] 64 (0, 0)) (by (with_reducible repeat (first | refine blk_drewN ?_ _ | refine blk_drew ?_ | refine blk_alloc ?_ _)); exact BK101.out)) : gb101 ≠ gb102)); have n6_ := Aside0.mk ((by rw [hg]; exact Nat.ne_of_gt (blk_lt (g := gb101) (o := .cells #[.int .i64 a0_0, .int .i64 a0_1] 64 (0, 0)) (by (with_reducible repeat (first | refine blk_drewN ?_ _ | refine blk_drew ?_ | refine blk_alloc ?_ _)); exact BK101.out)) : gb102 ≠ gb101)); clear BK101; clear HB; have BK101 := n0_; have HB := n1_; have BK102 := n2_; have GW102 := n3_; have GE102 := n4_; have NB101_102 := n5_; have NB102_101 := n6_; clear n0_ n1_ n2_ n3_ n4_ n5_ n6_; clear hb hbox hg; have hnb7 := NB101_102.out; have hnc7 := NB102_101.out; have hcz8_0 : w6.cell? ⟨gb101, 0, none⟩ = some (.int .i64 a0_0) := (blk_cell BK101.out 0).trans rfl; have hcz8_1 : w6.cell? ⟨gb101, 1, none⟩ = some (.int .i64 a0_1) := (blk_cell BK101.out 1).trans rfl; have hfz8_0 := blk_frozen BK101.out 0; have hfz8_1 := blk_frozen BK101.out 1; have hcz9_0 : w6.cell? ⟨gb102, 0, none⟩ = some (.int .i64 a1_0) := (blk_cell BK102.out 0).trans rfl; have hcz9_1 : w6.cell? ⟨gb102, 1, none⟩ = some (.int .i64 a1_1) := (blk_cell BK102.out 1).trans rfl; have hfz9_0 := blk_frozen BK102.out 0; have hfz9_1 := blk_frozen BK102.out 1))
      go_ret
      exact ⟨by first | rfl | (simp [errW_none, errW_some] <;> rfl) | (simp [*, errW_none, errW_some] <;> rfl), by repeat (first | (with_reducible first | exact HB.out | apply below_alloc | apply pw_below_drewN | apply below_drew1 | refine below_set ?_ GE101.out | refine below_set ?_ GE102.out) | exact HB.out)⟩
    · rw [if_neg c4] at H
      have c4b0 : (a0_1 == a1_1) = false := beq_eq_false_iff_ne.mpr c4
      have c4b1 : (a0_1 != a1_1) = true := bne_iff_ne.mpr c4
      obtain rfl := Option.some.inj H
      go_enter Try.func60, Try.ntmps60
      go_wp2_with (first | ((with_reducible refine gate_dst (N := 2) rfl ?_); refine box_event ?hg (N := 2) ?hd (cs := #[.int .i64 a0_0, .int .i64 a0_1]) (t := 64) ?hr ?_; (case hd => rfl); (case hg => rfl); (case hr => first | (go_simp; done) | (go_simp; rfl)); intro gb101 hg w10 hbox hb; have n0_ := Aside0.mk (below_step (by repeat (first | (with_reducible first | exact HB.out | apply below_alloc | apply pw_below_drewN | apply below_drew1) | exact HB.out)) hb); have n1_ := Aside0.mk (hbox); have n2_ := Aside0.mk ((by rw [hg]; exact (below_size (by repeat (first | (with_reducible first | exact HB.out | apply below_alloc | apply pw_below_drewN | apply below_drew1) | exact HB.out))) : w.heap.size ≤ gb101)); have n3_ := Aside0.mk ((by rw [hg]; exact (below_size (by repeat (first | (with_reducible first | exact HB.out | apply below_alloc | apply pw_below_drewN | apply below_drew1) | exact HB.out))) : w.heap.size ≤ gb101)); clear HB; have HB := n0_; have BK101 := n1_; have GW101 := n2_; have GE101 := n3_; clear n0_ n1_ n2_ n3_; clear hb hbox hg) | ((with_reducible refine gate_dst (N := 3) rfl ?_); refine box_event ?hg (N := 3) ?hd (cs := #[.int .i64 a1_0, .int .i64 a1_1]) (t := 64) ?hr ?_; (case hd => rfl); (case hg => rfl); (case hr => first | (go_simp; done) | (go_simp; rfl)); intro gb102 hg w11 hbox hb; have n0_ := Aside0.mk (blk_below (g := gb101) (o := .cells #[.int .i64 a0_0, .int .i64 a0_1] 64 (0, 0)) (by (with_reducible repeat (first | refine blk_drewN ?_ _ | refine blk_drew ?_ | refine blk_alloc ?_ _)); exact BK101.out) hb); have n1_ := Aside0.mk (below_step (by repeat (first | (with_reducible first | exact HB.out | apply below_alloc | apply pw_below_drewN | apply below_drew1 | refine below_set ?_ GE101.out) | exact HB.out)) hb); have n2_ := Aside0.mk (hbox); have n3_ := Aside0.mk ((by rw [hg]; exact (below_size (by repeat (first | (with_reducible first | exact HB.out | apply below_alloc | apply pw_below_drewN | apply below_drew1 | refine below_set ?_ GE101.out) | exact HB.out))) : w.heap.size ≤ gb102)); have n4_ := Aside0.mk ((by rw [hg]; exact (below_size (by repeat (first | (with_reducible first | exact HB.out | apply below_alloc | apply pw_below_drewN | apply below_drew1 | refine below_set ?_ GE101.out) | exact HB.out))) : w.heap.size ≤ gb102)); have n5_ := Aside0.mk ((by rw [hg]; exact Nat.ne_of_lt (blk_lt (g := gb101) (o := .cells #[.int .i64 a0_0, .int .i64 a0_1] 64 (0, 0)) (by (with_reducible repeat (first | refine blk_drewN ?_ _ | refine blk_drew ?_ | refine blk_alloc ?_ _)); exact BK101.out)) : gb101 ≠ gb102)); have n6_ := Aside0.mk ((by rw [hg]; exact Nat.ne_of_gt (blk_lt (g := gb101) (o := .cells #[.int .i64 a0_0, .int .i64 a0_1] 64 (0, 0)) (by (with_reducible repeat (first | refine blk_drewN ?_ _ | refine blk_drew ?_ | refine blk_alloc ?_ _)); exact BK101.out)) : gb102 ≠ gb101)); clear BK101; clear HB; have BK101 := n0_; have HB := n1_; have BK102 := n2_; have GW102 := n3_; have GE102 := n4_; have NB101_102 := n5_; have NB102_101 := n6_; clear n0_ n1_ n2_ n3_ n4_ n5_ n6_; clear hb hbox hg; have hnb12 := NB101_102.out; have hnc12 := NB102_101.out; have hcz13_0 : w11.cell? ⟨gb101, 0, none⟩ = some (.int .i64 a0_0) := (blk_cell BK101.out 0).trans rfl; have hcz13_1 : w11.cell? ⟨gb101, 1, none⟩ = some (.int .i64 a0_1) := (blk_cell BK101.out 1).trans rfl; have hfz13_0 := blk_frozen BK101.out 0; have hfz13_1 := blk_frozen BK101.out 1; have hcz14_0 : w11.cell? ⟨gb102, 0, none⟩ = some (.int .i64 a1_0) := (blk_cell BK102.out 0).trans rfl; have hcz14_1 : w11.cell? ⟨gb102, 1, none⟩ = some (.int .i64 a1_1) := (blk_cell BK102.out 1).trans rfl; have hfz14_0 := blk_frozen BK102.out 0; have hfz14_1 := blk_frozen BK102.out 1))
      go_ret
      exact ⟨by first | rfl | (simp [errW_none, errW_some] <;> rfl) | (simp [*, errW_none, errW_some] <;> rfl), by repeat (first | (with_reducible first | exact HB.out | apply below_alloc | apply pw_below_drewN | apply below_drew1 | refine below_set ?_ GE101.out | refine below_set ?_ GE102.out) | exact HB.out)⟩
  · rw [if_neg c3] at H
    have c3b0 : (a0_0 == a1_0) = false := beq_eq_false_iff_ne.mpr c3
    have c3b1 : (a0_0 != a1_0) = true := bne_iff_ne.mpr c3
    obtain rfl := Option.some.inj H
    go_enter Try.func60, Try.ntmps60
    go_wp2_with (first | ((with_reducible refine gate_dst (N := 2) rfl ?_); refine box_event ?hg (N := 2) ?hd (cs := #[.int .i64 a0_0, .int .i64 a0_1]) (t := 64) ?hr ?_; (case hd => rfl); (case hg => rfl); (case hr => first | (go_simp; done) | (go_simp; rfl)); intro gb101 hg w15 hbox hb; have n0_ := Aside0.mk (below_step (by repeat (first | (with_reducible first | exact HB.out | apply below_alloc | apply pw_below_drewN | apply below_drew1) | exact HB.out)) hb); have n1_ := Aside0.mk (hbox); have n2_ := Aside0.mk ((by rw [hg]; exact (below_size (by repeat (first | (with_reducible first | exact HB.out | apply below_alloc | apply pw_below_drewN | apply below_drew1) | exact HB.out))) : w.heap.size ≤ gb101)); have n3_ := Aside0.mk ((by rw [hg]; exact (below_size (by repeat (first | (with_reducible first | exact HB.out | apply below_alloc | apply pw_below_drewN | apply below_drew1) | exact HB.out))) : w.heap.size ≤ gb101)); clear HB; have HB := n0_; have BK101 := n1_; have GW101 := n2_; have GE101 := n3_; clear n0_ n1_ n2_ n3_; clear hb hbox hg) | ((with_reducible refine gate_dst (N := 3) rfl ?_); refine box_event ?hg (N := 3) ?hd (cs := #[.int .i64 a1_0, .int .i64 a1_1]) (t := 64) ?hr ?_; (case hd => rfl); (case hg => rfl); (case hr => first | (go_simp; done) | (go_simp; rfl)); intro gb102 hg w16 hbox hb; have n0_ := Aside0.mk (blk_below (g := gb101) (o := .cells #[.int .i64 a0_0, .int .i64 a0_1] 64 (0, 0)) (by (with_reducible repeat (first | refine blk_drewN ?_ _ | refine blk_drew ?_ | refine blk_alloc ?_ _)); exact BK101.out) hb); have n1_ := Aside0.mk (below_step (by repeat (first | (with_reducible first | exact HB.out | apply below_alloc | apply pw_below_drewN | apply below_drew1 | refine below_set ?_ GE101.out) | exact HB.out)) hb); have n2_ := Aside0.mk (hbox); have n3_ := Aside0.mk ((by rw [hg]; exact (below_size (by repeat (first | (with_reducible first | exact HB.out | apply below_alloc | apply pw_below_drewN | apply below_drew1 | refine below_set ?_ GE101.out) | exact HB.out))) : w.heap.size ≤ gb102)); have n4_ := Aside0.mk ((by rw [hg]; exact (below_size (by repeat (first | (with_reducible first | exact HB.out | apply below_alloc | apply pw_below_drewN | apply below_drew1 | refine below_set ?_ GE101.out) | exact HB.out))) : w.heap.size ≤ gb102)); have n5_ := Aside0.mk ((by rw [hg]; exact Nat.ne_of_lt (blk_lt (g := gb101) (o := .cells #[.int .i64 a0_0, .int .i64 a0_1] 64 (0, 0)) (by (with_reducible repeat (first | refine blk_drewN ?_ _ | refine blk_drew ?_ | refine blk_alloc ?_ _)); exact BK101.out)) : gb101 ≠ gb102)); have n6_ := Aside0.mk ((by rw [hg]; exact Nat.ne_of_gt (blk_lt (g := gb101) (o := .cells #[.int .i64 a0_0, .int .i64 a0_1] 64 (0, 0)) (by (with_reducible repeat (first | refine blk_drewN ?_ _ | refine blk_drew ?_ | refine blk_alloc ?_ _)); exact BK101.out)) : gb102 ≠ gb101)); clear BK101; clear HB; have BK101 := n0_; have HB := n1_; have BK102 := n2_; have GW102 := n3_; have GE102 := n4_; have NB101_102 := n5_; have NB102_101 := n6_; clear n0_ n1_ n2_ n3_ n4_ n5_ n6_; clear hb hbox hg; have hnb17 := NB101_102.out; have hnc17 := NB102_101.out; have hcz18_0 : w16.cell? ⟨gb101, 0, none⟩ = some (.int .i64 a0_0) := (blk_cell BK101.out 0).trans rfl; have hcz18_1 : w16.cell? ⟨gb101, 1, none⟩ = some (.int .i64 a0_1) := (blk_cell BK101.out 1).trans rfl; have hfz18_0 := blk_frozen BK101.out 0; have hfz18_1 := blk_frozen BK101.out 1; have hcz19_0 : w16.cell? ⟨gb102, 0, none⟩ = some (.int .i64 a1_0) := (blk_cell BK102.out 0).trans rfl; have hcz19_1 : w16.cell? ⟨gb102, 1, none⟩ = some (.int .i64 a1_1) := (blk_cell BK102.out 1).trans rfl; have hfz19_0 := blk_frozen BK102.out 0; have hfz19_1 := blk_frozen BK102.out 1))
    go_ret
    exact ⟨by first | rfl | (simp [errW_none, errW_some] <;> rfl) | (simp [*, errW_none, errW_some] <;> rfl), by repeat (first | (with_reducible first | exact HB.out | apply below_alloc | apply pw_below_drewN | apply below_drew1 | refine below_set ?_ GE101.out | refine below_set ?_ GE102.out) | exact HB.out)⟩
end Go.Proofs.Yteeghncofacmhaa.Q
end
section
namespace Go.Proofs.Yteeghncofacmhaa.Q
open Go.RowKit Go.Proofs.YteeghncofacmhaaW.PrintWords Go.Proofs.YteeghncofacmhaaW.PrintLast Go.Proofs.YteeghncofacmhaaW.PrintMore
attribute [local go_sem] max2_int min2_int max_two min_two max_three min_three max_four min_four   -- for this text's walks alone
set_option linter.unusedVariables false
set_option linter.unusedSimpArgs false
/-! ### laws_eqChordS: function 15 -/
def laws_eqChordS.l0 : Nat → List (S64) → List (S64) → Int → Option (Bool)
  | 0, _, _, _ => none
  | k + 1, x0, x1, x5 => if x5 < (x0.length : Int) then (if 0 ≤ x5 then (if x5 < (x1.length : Int) then ((laws_eqChord.f ((rd_T64 x0 x5).f0) ((rd_T64 x0 x5).f1) ((rd_T64 x1 x5).f0) ((rd_T64 x1 x5).f1)).bind fun t103 => (if t103 = true then (laws_eqChordS.l0 k x0 x1 (wrap64 (x5 + 1))) else (some false))) else (none)) else (none)) else (some true)
def laws_eqChordS.f (k : Nat) (l0 : List (S64)) (l1 : List (S64)) : Option (Bool) := if (l0.length : Int) = (l1.length : Int) then (laws_eqChordS.l0 k l0 l1 0) else (some false)
def laws_eqChordS.T6 : Bool × List (List Nat × List Nat) := (true, [([], []), ([], []), ([0, 1], [0, 1]), ([2], [2]), ([], []), ([], []), ([4, 5], [4, 5]), ([6], [6]), ([3, 7], [3, 7]), ([8], [8])])
def laws_eqChordS.B6 : List Nat := [0, 0, 3, 7, 0, 0, 48, 112, 255, 511]
theorem laws_eqChordS.tab6 : rtab .any (opsOf Try.f15 6) = laws_eqChordS.T6 := by kernel_rfl
theorem laws_eqChordS.bits6 : waitsOk laws_eqChordS.T6.2 laws_eqChordS.B6 = true := by kernel_rfl
set_option maxHeartbeats 8000000 in
set_option maxRecDepth 100000 in
theorem laws_eqChordS.calls (k : Nat) (A0 : Option Addr) (c0 : Nat) (l0 : List (S64)) (A1 : Option Addr) (c1 : Nat) (l1 : List (S64)) (r : Bool) (w : World) (hr0 : Kd.C k64 w A0 l0.length l0) (hc0 : l0.length ≤ c0) (hr1 : Kd.C k64 w A1 l1.length l1) (hc1 : l1.length ≤ c1) (h : laws_eqChordS.f k l0 l1 = some r) :
    Calls Try.prog 15 #[.slice A0 l0.length c0, .slice A1 l1.length c1] w fun e w' => e = .returned (.bool r) ∧ Below w.heap.size w w' := by
  have hu64 := Try.underlying64
  have HR0 := Aside0.mk hr0
  have HC0 := Aside0.mk hc0
  clear hr0 hc0
  have HR1 := Aside0.mk hr1
  have HC1 := Aside0.mk hc1
  clear hr1 hc1
  have HB := Aside0.mk (Below.refl w.heap.size w)
  have H : (if (l0.length : Int) = (l1.length : Int) then (laws_eqChordS.l0 k l0 l1 0) else (some false)) = some r := h
  clear h
  by_cases c3 : (l0.length : Int) = (l1.length : Int)
  · rw [if_pos c3] at H
    have c3b0 : ((l0.length : Int) == (l1.length : Int)) = true := beq_iff_eq.mpr c3
    have c3b1 : ((l0.length : Int) != (l1.length : Int)) = false := bne_eq_false_iff_eq.mpr c3
    have c3b2 : (l0.length == l1.length) = true := by first | simpa using c3 | (simp at c3 ⊢; omega)
    clear c3
    have H' := Aside0.mk H
    clear H
    go_enter Try.func15, Try.ntmps15
    go_wp2
    go_loopg [5] k (fun kq v5 w' => ∃ (x5_1 : Int), v5 = .int .i64 x5_1 ∧ Aside0 (laws_eqChordS.l0 kq l0 l1 x5_1 = some r) ∧ Aside0 (kq ≤ k) ∧ Aside0 (Below w.heap.size w w'))
    case atStart => exact ⟨(0), (by first | rfl | (simp; done) | (simp [*]; done)), H', ⟨Nat.le_refl _⟩, ⟨by repeat (first | (with_reducible first | exact HB.out | apply below_alloc | apply pw_below_drewN | apply below_drew1) | exact HB.out)⟩⟩
    case round =>
      clear H'
      try clear c1
      try clear p2
      try clear c3
      try clear c3b0
      try clear c3b1
      try clear c3b2
      obtain ⟨x5_1, rfl, HA, HK1, HB⟩ := hrel
      cases gk with
      | zero => exact absurd HA.out (by simp [laws_eqChordS.l0])
      | succ k1 =>
        have H := HA.out
        clear HA
        simp only [laws_eqChordS.l0] at H
        by_cases c4 : x5_1 < (l0.length : Int)
        · rw [if_pos c4] at H
          have c4b0 : decide (x5_1 < (l0.length : Int)) = true := decide_eq_true c4
          clear c4
          by_cases c5 : 0 ≤ x5_1
          · rw [if_pos c5] at H
            have c5b0 : decide (0 ≤ x5_1) = true := decide_eq_true c5
            clear c5
            by_cases c6 : x5_1 < (l1.length : Int)
            · rw [if_pos c6] at H
              have c6b0 : decide (x5_1 < (l1.length : Int)) = true := decide_eq_true c6
              clear c6
              replace H := Option.bind_eq_some_iff.mp H
              obtain ⟨t103, A70, H⟩ := H
              replace H : (if t103 = true then (laws_eqChordS.l0 k1 l0 l1 (wrap64 (x5_1 + 1))) else (some false)) = some r := H
              have A7 := Aside0.mk A70
              clear A70
              by_cases c8 : t103 = true
              · subst c8
                have H1 : (laws_eqChordS.l0 k1 l0 l1 (wrap64 (x5_1 + 1))) = some r := by rw [if_pos rfl] at H; exact H
                clear H
                have H := H1
                clear H1
                have H' := Aside0.mk H
                clear H
                try go_wp2
                have n0_ := Aside0.mk (below_drew1 HB.out)
                clear HB
                have HB := n0_
                clear n0_
                have p101 : 0 ≤ (x5_1 : Int) := of_decide_eq_true (by first | (with_reducible assumption) | assumption)
                have q101 : x5_1 < (l0.length : Int) := of_decide_eq_true (by first | (with_reducible assumption) | assumption)
                obtain ⟨ad101, e101, hx101_0, hx101_1⟩ := at_T64 HR0.out x5_1 p101 q101
                have hw101_1 := hx101_1
                have hw101_0 := hx101_0
                cases e101
                try replace hx101_0 := (HB.out.cell (World.block_lt_of_cell? w _ hx101_0)).trans hx101_0
                try replace hx101_1 := (HB.out.cell (World.block_lt_of_cell? w _ hx101_1)).trans hx101_1
                replace p101 := eq_true p101
                replace q101 := eq_true q101
                have p102 : 0 ≤ (x5_1 : Int) := of_decide_eq_true (by first | (with_reducible assumption) | assumption)
                have q102 : x5_1 < (l1.length : Int) := of_decide_eq_true (by first | (with_reducible assumption) | assumption)
                obtain ⟨ad102, e102, hx102_0, hx102_1⟩ := at_T64 HR1.out x5_1 p102 q102
                have hw102_1 := hx102_1
                have hw102_0 := hx102_0
                cases e102
                try replace hx102_0 := (HB.out.cell (World.block_lt_of_cell? w _ hx102_0)).trans hx102_0
                try replace hx102_1 := (HB.out.cell (World.block_lt_of_cell? w _ hx102_1)).trans hx102_1
                replace p102 := eq_true p102
                replace q102 := eq_true q102
                refine start_ (n := 10) (S := fun w' => w'.cell? (ad101.add ((x5_1).toNat * 2)) = some (.int .i64 ((rd_T64 l0 x5_1).f0)) ∧ w'.cell? ⟨(ad101.add ((x5_1).toNat * 2)).block, (ad101.add ((x5_1).toNat * 2)).off + 1, none⟩ = some (.int .i64 ((rd_T64 l0 x5_1).f1)) ∧ w'.cell? (ad102.add ((x5_1).toNat * 2)) = some (.int .i64 ((rd_T64 l1 x5_1).f0)) ∧ w'.cell? ⟨(ad102.add ((x5_1).toNat * 2)).block, (ad102.add ((x5_1).toNat * 2)).off + 1, none⟩ = some (.int .i64 ((rd_T64 l1 x5_1).f1))) (ds := []) #[false, false, false, false, false, false, false, false, false, false] (by kernel_rfl) rfl rfl ⟨((HB.out.cell (World.block_lt_of_cell? w _ hw101_0)).trans hw101_0), ((HB.out.cell (World.block_lt_of_cell? w _ hw101_1)).trans hw101_1), ((HB.out.cell (World.block_lt_of_cell? w _ hw102_0)).trans hw102_0), ((HB.out.cell (World.block_lt_of_cell? w _ hw102_1)).trans hw102_1)⟩ (fun hHeld => ?_); refine with_tabW laws_eqChordS.tab6 laws_eqChordS.bits6 (fun HT_ HW_ => ?_)
                generalize wr.drew = w9 at HB hx101_0 hx101_1 hx102_0 hx102_1 hHeld ⊢
                refine pure_ (i := 0) (N := some 17) (v := ?_) (a' := ?_) #[true, false, false, false, false, false, false, false, false, false] rfl rfl (any_of HT_.out (by kernel_rfl)) (fun _ _ _ h => h) (Or.inl ⟨by rfl, ?_⟩) ?_ ?_
                rotate_left
                · intro w'
                  go_simp
                  with_reducible rfl
                rotate_left
                · simp only [Act.put, List.setIfInBounds_toArray, List.set_cons_zero, List.set_cons_succ, i64_w, i32_w]
                  rfl
                refine pure_ (i := 1) (N := some 18) (v := ?_) (a' := ?_) #[true, true, false, false, false, false, false, false, false, false] rfl rfl (any_of HT_.out (by kernel_rfl)) (fun _ _ _ h => h) (Or.inl ⟨by rfl, ?_⟩) ?_ ?_
                rotate_left
                · intro w'
                  go_simp
                  with_reducible rfl
                rotate_left
                · simp only [Act.put, List.setIfInBounds_toArray, List.set_cons_zero, List.set_cons_succ, i64_w, i32_w]
                  rfl
                refine pure_ (i := 2) (N := some 19) (v := ?_) (a' := ?_) #[true, true, true, false, false, false, false, false, false, false] rfl rfl (any_of HT_.out (by kernel_rfl)) (fun _ _ _ h => h) (Or.inl ⟨by rfl, ?_⟩) ?_ ?_
                rotate_left
                · intro w'
                  go_simp
                  with_reducible rfl
                rotate_left
                · simp only [Act.put, List.setIfInBounds_toArray, List.set_cons_zero, List.set_cons_succ, i64_w, i32_w]
                  rfl
                refine pure_ (i := 4) (N := some 21) (v := ?_) (a' := ?_) #[true, true, true, false, true, false, false, false, false, false] rfl rfl (any_of HT_.out (by kernel_rfl)) (fun _ _ _ h => h) (Or.inl ⟨by rfl, ?_⟩) ?_ ?_
                rotate_left
                · intro w'
                  go_simp
                  with_reducible rfl
                rotate_left
                · simp only [Act.put, List.setIfInBounds_toArray, List.set_cons_zero, List.set_cons_succ, i64_w, i32_w]
                  rfl
                refine pure_ (i := 5) (N := some 22) (v := ?_) (a' := ?_) #[true, true, true, false, true, true, false, false, false, false] rfl rfl (any_of HT_.out (by kernel_rfl)) (fun _ _ _ h => h) (Or.inl ⟨by rfl, ?_⟩) ?_ ?_
                rotate_left
                · intro w'
                  go_simp
                  with_reducible rfl
                rotate_left
                · simp only [Act.put, List.setIfInBounds_toArray, List.set_cons_zero, List.set_cons_succ, i64_w, i32_w]
                  rfl
                refine pure_ (i := 6) (N := some 23) (v := ?_) (a' := ?_) #[true, true, true, false, true, true, true, false, false, false] rfl rfl (any_of HT_.out (by kernel_rfl)) (fun _ _ _ h => h) (Or.inl ⟨by rfl, ?_⟩) ?_ ?_
                rotate_left
                · intro w'
                  go_simp
                  with_reducible rfl
                rotate_left
                · simp only [Act.put, List.setIfInBounds_toArray, List.set_cons_zero, List.set_cons_succ, i64_w, i32_w]
                  rfl
                refine take_ (i := 3) (N := some 20) (v := ?_) (a' := ?_) #[true, true, true, true, true, true, true, false, false, false] rfl rfl (take_ofW HT_.out HW_.out (by kernel_rfl)) (fun _ _ _ h => h) (Or.inl ⟨by rfl, ?_⟩) hHeld ?_ ?_
                rotate_left
                · rintro w' ⟨s0, s1, s2, s3⟩
                  go_simp
                  with_reducible rfl
                rotate_left
                · simp only [Act.put, List.setIfInBounds_toArray, List.set_cons_zero, List.set_cons_succ, i64_w, i32_w]
                  rfl
                refine take_ (i := 7) (N := some 24) (v := ?_) (a' := ?_) #[true, true, true, true, true, true, true, true, false, false] rfl rfl (take_ofW HT_.out HW_.out (by kernel_rfl)) (fun _ _ _ h => h) (Or.inl ⟨by rfl, ?_⟩) hHeld ?_ ?_
                rotate_left
                · rintro w' ⟨s0, s1, s2, s3⟩
                  go_simp
                  with_reducible rfl
                rotate_left
                · simp only [Act.put, List.setIfInBounds_toArray, List.set_cons_zero, List.set_cons_succ, i64_w, i32_w]
                  rfl
                refine one_ (i := 8) (N := some 25) #[true, true, true, true, true, true, true, true, true, false] rfl rfl (one_of HT_.out (by kernel_rfl)) (by decide) (fun K hK => ?_)
                refine goes_ Try.func60 (by kernel_rfl) rfl #[.agg #[.int .i64 ((rd_T64 l0 x5_1).f0), .int .i64 ((rd_T64 l0 x5_1).f1)], .agg #[.int .i64 ((rd_T64 l1 x5_1).f0), .int .i64 ((rd_T64 l1 x5_1).f1)]] (by rfl) rfl rfl (by (try simp only [List.map_toArray, List.map_cons, List.map_nil]); first | done | rfl | (simp only [List.length_drop, List.length_take]; rfl)) ?_
                with_reducible refine (laws_eqChord.calls ((rd_T64 l0 x5_1).f0) ((rd_T64 l0 x5_1).f1) ((rd_T64 l1 x5_1).f0) ((rd_T64 l1 x5_1).f1) true _ A7.out).mono ?_
                rintro e w10 ⟨rfl, hb⟩
                refine ⟨_, rfl, ?_⟩
                have n0_ := Aside0.mk (below_step (by repeat (first | (with_reducible first | exact HB.out | apply below_alloc | apply pw_below_drewN | apply below_drew1) | exact HB.out)) hb)
                clear HB
                have HB := n0_
                clear n0_
                (try clear hb)
                (try clear hb2)
                (try clear hk)
                (try clear hi)
                refine hK.out _ _ ⟨((HB.out.cell (World.block_lt_of_cell? w _ hw101_0)).trans hw101_0), ((HB.out.cell (World.block_lt_of_cell? w _ hw101_1)).trans hw101_1), ((HB.out.cell (World.block_lt_of_cell? w _ hw102_0)).trans hw102_0), ((HB.out.cell (World.block_lt_of_cell? w _ hw102_1)).trans hw102_1)⟩ (fun hHeld => ?_)
                clear hK K
                refine norm_ (a' := ?_) ?_ ?_
                rotate_left
                · show Act.put _ (some 25) _ = _
                  simp only [Act.put, List.setIfInBounds_toArray, List.set_cons_zero, List.set_cons_succ, i64_w, i32_w]
                  rfl
                refine pure_ (i := 9) (N := some 26) (v := ?_) (a' := ?_) #[true, true, true, true, true, true, true, true, true, true] rfl rfl (any_of HT_.out (by kernel_rfl)) (fun _ _ _ h => h) (Or.inl ⟨by rfl, ?_⟩) ?_ ?_
                rotate_left
                · intro w'
                  go_simp
                  with_reducible rfl
                rotate_left
                · simp only [Act.put, List.setIfInBounds_toArray, List.set_cons_zero, List.set_cons_succ, i64_w, i32_w]
                  rfl
                refine done_ (done_of HT_.out (by kernel_rfl)) ?_
                try go_wp2
                go_roundg k1
                case measure => have := HK1.out; omega
                case rel => exact ⟨(wrap64 (x5_1 + 1)), (by first | rfl | (simp; done) | (simp [*]; done)), H', ⟨by have := HK1.out; omega⟩, ⟨by repeat (first | (with_reducible first | exact HB.out | apply below_alloc | apply pw_below_drewN | apply below_drew1) | exact HB.out)⟩⟩
              · replace c8 := Bool.eq_false_iff.mpr c8
                subst c8
                have H1 : (some false) = some r := by rw [if_neg (show ¬ (false = true) by decide)] at H; exact H
                clear H
                have H := H1
                clear H1
                obtain rfl := Option.some.inj H
                try go_wp2
                have n0_ := Aside0.mk (below_drew1 HB.out)
                clear HB
                have HB := n0_
                clear n0_
                have p101 : 0 ≤ (x5_1 : Int) := of_decide_eq_true (by first | (with_reducible assumption) | assumption)
                have q101 : x5_1 < (l0.length : Int) := of_decide_eq_true (by first | (with_reducible assumption) | assumption)
                obtain ⟨ad101, e101, hx101_0, hx101_1⟩ := at_T64 HR0.out x5_1 p101 q101
                have hw101_1 := hx101_1
                have hw101_0 := hx101_0
                cases e101
                try replace hx101_0 := (HB.out.cell (World.block_lt_of_cell? w _ hx101_0)).trans hx101_0
                try replace hx101_1 := (HB.out.cell (World.block_lt_of_cell? w _ hx101_1)).trans hx101_1
                replace p101 := eq_true p101
                replace q101 := eq_true q101
                have p102 : 0 ≤ (x5_1 : Int) := of_decide_eq_true (by first | (with_reducible assumption) | assumption)
                have q102 : x5_1 < (l1.length : Int) := of_decide_eq_true (by first | (with_reducible assumption) | assumption)
                obtain ⟨ad102, e102, hx102_0, hx102_1⟩ := at_T64 HR1.out x5_1 p102 q102
                have hw102_1 := hx102_1
                have hw102_0 := hx102_0
                cases e102
                try replace hx102_0 := (HB.out.cell (World.block_lt_of_cell? w _ hx102_0)).trans hx102_0
                try replace hx102_1 := (HB.out.cell (World.block_lt_of_cell? w _ hx102_1)).trans hx102_1
                replace p102 := eq_true p102
                replace q102 := eq_true q102
                refine start_ (n := 10) (S := fun w' => w'.cell? (ad101.add ((x5_1).toNat * 2)) = some (.int .i64 ((rd_T64 l0 x5_1).f0)) ∧ w'.cell? ⟨(ad101.add ((x5_1).toNat * 2)).block, (ad101.add ((x5_1).toNat * 2)).off + 1, none⟩ = some (.int .i64 ((rd_T64 l0 x5_1).f1)) ∧ w'.cell? (ad102.add ((x5_1).toNat * 2)) = some (.int .i64 ((rd_T64 l1 x5_1).f0)) ∧ w'.cell? ⟨(ad102.add ((x5_1).toNat * 2)).block, (ad102.add ((x5_1).toNat * 2)).off + 1, none⟩ = some (.int .i64 ((rd_T64 l1 x5_1).f1))) (ds := []) #[false, false, false, false, false, false, false, false, false, false] (by kernel_rfl) rfl rfl ⟨((HB.out.cell (World.block_lt_of_cell? w _ hw101_0)).trans hw101_0), ((HB.out.cell (World.block_lt_of_cell? w _ hw101_1)).trans hw101_1), ((HB.out.cell (World.block_lt_of_cell? w _ hw102_0)).trans hw102_0), ((HB.out.cell (World.block_lt_of_cell? w _ hw102_1)).trans hw102_1)⟩ (fun hHeld => ?_); refine with_tabW laws_eqChordS.tab6 laws_eqChordS.bits6 (fun HT_ HW_ => ?_)
                generalize wr.drew = w11 at HB hx101_0 hx101_1 hx102_0 hx102_1 hHeld ⊢
                refine pure_ (i := 0) (N := some 17) (v := ?_) (a' := ?_) #[true, false, false, false, false, false, false, false, false, false] rfl rfl (any_of HT_.out (by kernel_rfl)) (fun _ _ _ h => h) (Or.inl ⟨by rfl, ?_⟩) ?_ ?_
                rotate_left
                · intro w'
                  go_simp
                  with_reducible rfl
                rotate_left
                · simp only [Act.put, List.setIfInBounds_toArray, List.set_cons_zero, List.set_cons_succ, i64_w, i32_w]
                  rfl
                refine pure_ (i := 1) (N := some 18) (v := ?_) (a' := ?_) #[true, true, false, false, false, false, false, false, false, false] rfl rfl (any_of HT_.out (by kernel_rfl)) (fun _ _ _ h => h) (Or.inl ⟨by rfl, ?_⟩) ?_ ?_
                rotate_left
                · intro w'
                  go_simp
                  with_reducible rfl
                rotate_left
                · simp only [Act.put, List.setIfInBounds_toArray, List.set_cons_zero, List.set_cons_succ, i64_w, i32_w]
                  rfl
                refine pure_ (i := 2) (N := some 19) (v := ?_) (a' := ?_) #[true, true, true, false, false, false, false, false, false, false] rfl rfl (any_of HT_.out (by kernel_rfl)) (fun _ _ _ h => h) (Or.inl ⟨by rfl, ?_⟩) ?_ ?_
                rotate_left
                · intro w'
                  go_simp
                  with_reducible rfl
                rotate_left
                · simp only [Act.put, List.setIfInBounds_toArray, List.set_cons_zero, List.set_cons_succ, i64_w, i32_w]
                  rfl
                refine pure_ (i := 4) (N := some 21) (v := ?_) (a' := ?_) #[true, true, true, false, true, false, false, false, false, false] rfl rfl (any_of HT_.out (by kernel_rfl)) (fun _ _ _ h => h) (Or.inl ⟨by rfl, ?_⟩) ?_ ?_
                rotate_left
                · intro w'
                  go_simp
                  with_reducible rfl
                rotate_left
                · simp only [Act.put, List.setIfInBounds_toArray, List.set_cons_zero, List.set_cons_succ, i64_w, i32_w]
                  rfl
                refine pure_ (i := 5) (N := some 22) (v := ?_) (a' := ?_) #[true, true, true, false, true, true, false, false, false, false] rfl rfl (any_of HT_.out (by kernel_rfl)) (fun _ _ _ h => h) (Or.inl ⟨by rfl, ?_⟩) ?_ ?_
                rotate_left
                · intro w'
                  go_simp
                  with_reducible rfl
                rotate_left
                · simp only [Act.put, List.setIfInBounds_toArray, List.set_cons_zero, List.set_cons_succ, i64_w, i32_w]
                  rfl
                refine pure_ (i := 6) (N := some 23) (v := ?_) (a' := ?_) #[true, true, true, false, true, true, true, false, false, false] rfl rfl (any_of HT_.out (by kernel_rfl)) (fun _ _ _ h => h) (Or.inl ⟨by rfl, ?_⟩) ?_ ?_
                rotate_left
                · intro w'
                  go_simp
                  with_reducible rfl
                rotate_left
                · simp only [Act.put, List.setIfInBounds_toArray, List.set_cons_zero, List.set_cons_succ, i64_w, i32_w]
                  rfl
                refine take_ (i := 3) (N := some 20) (v := ?_) (a' := ?_) #[true, true, true, true, true, true, true, false, false, false] rfl rfl (take_ofW HT_.out HW_.out (by kernel_rfl)) (fun _ _ _ h => h) (Or.inl ⟨by rfl, ?_⟩) hHeld ?_ ?_
                rotate_left
                · rintro w' ⟨s0, s1, s2, s3⟩
                  go_simp
                  with_reducible rfl
                rotate_left
                · simp only [Act.put, List.setIfInBounds_toArray, List.set_cons_zero, List.set_cons_succ, i64_w, i32_w]
                  rfl
                refine take_ (i := 7) (N := some 24) (v := ?_) (a' := ?_) #[true, true, true, true, true, true, true, true, false, false] rfl rfl (take_ofW HT_.out HW_.out (by kernel_rfl)) (fun _ _ _ h => h) (Or.inl ⟨by rfl, ?_⟩) hHeld ?_ ?_
                rotate_left
                · rintro w' ⟨s0, s1, s2, s3⟩
                  go_simp
                  with_reducible rfl
                rotate_left
                · simp only [Act.put, List.setIfInBounds_toArray, List.set_cons_zero, List.set_cons_succ, i64_w, i32_w]
                  rfl
                refine one_ (i := 8) (N := some 25) #[true, true, true, true, true, true, true, true, true, false] rfl rfl (one_of HT_.out (by kernel_rfl)) (by decide) (fun K hK => ?_)
                refine goes_ Try.func60 (by kernel_rfl) rfl #[.agg #[.int .i64 ((rd_T64 l0 x5_1).f0), .int .i64 ((rd_T64 l0 x5_1).f1)], .agg #[.int .i64 ((rd_T64 l1 x5_1).f0), .int .i64 ((rd_T64 l1 x5_1).f1)]] (by rfl) rfl rfl (by (try simp only [List.map_toArray, List.map_cons, List.map_nil]); first | done | rfl | (simp only [List.length_drop, List.length_take]; rfl)) ?_
                with_reducible refine (laws_eqChord.calls ((rd_T64 l0 x5_1).f0) ((rd_T64 l0 x5_1).f1) ((rd_T64 l1 x5_1).f0) ((rd_T64 l1 x5_1).f1) false _ A7.out).mono ?_
                rintro e w12 ⟨rfl, hb⟩
                refine ⟨_, rfl, ?_⟩
                have n0_ := Aside0.mk (below_step (by repeat (first | (with_reducible first | exact HB.out | apply below_alloc | apply pw_below_drewN | apply below_drew1) | exact HB.out)) hb)
                clear HB
                have HB := n0_
                clear n0_
                (try clear hb)
                (try clear hb2)
                (try clear hk)
                (try clear hi)
                refine hK.out _ _ ⟨((HB.out.cell (World.block_lt_of_cell? w _ hw101_0)).trans hw101_0), ((HB.out.cell (World.block_lt_of_cell? w _ hw101_1)).trans hw101_1), ((HB.out.cell (World.block_lt_of_cell? w _ hw102_0)).trans hw102_0), ((HB.out.cell (World.block_lt_of_cell? w _ hw102_1)).trans hw102_1)⟩ (fun hHeld => ?_)
                clear hK K
                refine norm_ (a' := ?_) ?_ ?_
                rotate_left
                · show Act.put _ (some 25) _ = _
                  simp only [Act.put, List.setIfInBounds_toArray, List.set_cons_zero, List.set_cons_succ, i64_w, i32_w]
                  rfl
                refine pure_ (i := 9) (N := some 26) (v := ?_) (a' := ?_) #[true, true, true, true, true, true, true, true, true, true] rfl rfl (any_of HT_.out (by kernel_rfl)) (fun _ _ _ h => h) (Or.inl ⟨by rfl, ?_⟩) ?_ ?_
                rotate_left
                · intro w'
                  go_simp
                  with_reducible rfl
                rotate_left
                · simp only [Act.put, List.setIfInBounds_toArray, List.set_cons_zero, List.set_cons_succ, i64_w, i32_w]
                  rfl
                refine done_ (done_of HT_.out (by kernel_rfl)) ?_
                try go_wp2
                go_ret
                exact ⟨by first | rfl | (simp [errW_none, errW_some] <;> rfl) | (simp [*, errW_none, errW_some] <;> rfl), by repeat (first | (with_reducible first | exact HB.out | apply below_alloc | apply pw_below_drewN | apply below_drew1) | exact HB.out)⟩
            · rw [if_neg c6] at H
              exact absurd H (by simp)
          · rw [if_neg c5] at H
            exact absurd H (by simp)
        · rw [if_neg c4] at H
          have c4b0 : decide (x5_1 < (l0.length : Int)) = false := decide_eq_false c4
          clear c4
          obtain rfl := Option.some.inj H
          go_wp2
          go_ret
          exact ⟨by first | rfl | (simp [errW_none, errW_some] <;> rfl) | (simp [*, errW_none, errW_some] <;> rfl), by repeat (first | (with_reducible first | exact HB.out | apply below_alloc | apply pw_below_drewN | apply below_drew1) | exact HB.out)⟩
  · rw [if_neg c3] at H
    have c3b0 : ((l0.length : Int) == (l1.length : Int)) = false := beq_eq_false_iff_ne.mpr c3
    have c3b1 : ((l0.length : Int) != (l1.length : Int)) = true := bne_iff_ne.mpr c3
    have c3b2 : (l0.length == l1.length) = false := by first | simpa using c3 | (simp at c3 ⊢; omega)
    obtain rfl := Option.some.inj H
    go_enter Try.func15, Try.ntmps15
    go_wp2
    go_ret
    exact ⟨by first | rfl | (simp [errW_none, errW_some] <;> rfl) | (simp [*, errW_none, errW_some] <;> rfl), by repeat (first | (with_reducible first | exact HB.out | apply below_alloc | apply pw_below_drewN | apply below_drew1) | exact HB.out)⟩
end Go.Proofs.Yteeghncofacmhaa.Q
end
section
namespace Go.Proofs.Yteeghncofacmhaa.Q
open Go.RowKit Go.Proofs.YteeghncofacmhaaW.PrintWords Go.Proofs.YteeghncofacmhaaW.PrintLast Go.Proofs.YteeghncofacmhaaW.PrintMore
attribute [local go_sem] max2_int min2_int max_two min_two max_three min_three max_four min_four   -- for this text's walks alone
set_option linter.unusedVariables false
set_option linter.unusedSimpArgs false
/-! ### laws_markChordS: function 16 -/
def laws_markChordS.l0 : Nat → List (S64) → Int → Int → Option (Int × (List (S64)))
  | 0, _, _, _ => none
  | k + 1, x0, x1, x5 => if x5 < (x0.length : Int) then (if 0 ≤ x5 then ((some (x0.set (x5 : Int).toNat (⟨x1, (rd_T64 x0 x5).f1⟩ : S64) : List (S64))).bind fun y101 => (laws_markChordS.l0 k (y101.set (x5 : Int).toNat (⟨(rd_T64 y101 x5).f0, wrap64 (x1 + 1)⟩ : S64)) (wrap64 ((wrap64 (x1 + 1)) + 1)) (wrap64 (x5 + 1)))) else (none)) else (some (x1, x0))
def laws_markChordS.f (k : Nat) (l0 : List (S64)) (a1 : Int) : Option (Int × (List (S64))) := laws_markChordS.l0 k l0 a1 0
set_option maxHeartbeats 8000000 in
set_option maxRecDepth 100000 in
theorem laws_markChordS.calls (k : Nat) (P0_ : Nat → Prop) (u9000_ : Value) (l0 : List (S64)) (a1 : Int) (r1 : Int) (r2 : List (S64)) (w0 w : World) (hB : Below w0.heap.size w0 w) (ho0 : Kd.R k64 64 w w0.heap.size P0_ u9000_ l0) (h : laws_markChordS.f k l0 a1 = some (r1, r2)) :
    Calls Try.prog 16 #[u9000_, .int .i64 a1] w fun e w' => e = .returned (.int .i64 r1) ∧ Kd.R k64 64 w' w0.heap.size (fun k_ => (P0_ k_ ∨ w.heap.size ≤ k_)) u9000_ r2 ∧ Below w0.heap.size w0 w' ∧ Kept w w' (fun k_ => P0_ k_) := by
  have HO0 := Aside0.mk (show Kd.R k64 64 w w0.heap.size (fun k_ => (P0_ k_ ∨ w.heap.size ≤ k_)) u9000_ l0 from Kd.R_mono ho0 (fun k_ hk => (.inl hk)))
  have HK := Aside0.mk (Kept.refl w (fun k_ => P0_ k_))
  have HW0 := Aside0.mk hB.size
  have HB := Aside0.mk hB
  clear hB
  have H : (laws_markChordS.l0 k l0 a1 0) = some (r1, r2) := h
  clear h
  have H' := Aside0.mk H
  clear H
  go_enter Try.func16, Try.ntmps16
  go_wp2
  go_loopg [1, 5] k (fun kq v1 v5 w' => ∃ (x0_1 : List (S64)) (x1_1 : Int) (x5_1 : Int), v1 = .int .i64 x1_1 ∧ v5 = .int .i64 x5_1 ∧ Aside0 (laws_markChordS.l0 kq x0_1 x1_1 x5_1 = some (r1, r2)) ∧ Aside0 (kq ≤ k) ∧ Aside0 (Kd.R k64 64 w' w0.heap.size (fun k_ => (P0_ k_ ∨ w.heap.size ≤ k_)) u9000_ x0_1) ∧ Aside0 (Kept w w' (fun k_ => P0_ k_)) ∧ Aside0 (Below w0.heap.size w0 w'))
  case atStart => exact ⟨(l0), (a1), (0), (by first | rfl | (simp; done) | (simp [*]; done)), (by first | rfl | (simp; done) | (simp [*]; done)), H', ⟨Nat.le_refl _⟩, ⟨by (with_reducible repeat (first | apply Kd.R_alloc | apply Kd.R_drewN | apply Kd.R_drew)); exact HO0.out⟩, ⟨by repeat (first | (with_reducible first | exact HK.out | apply Kept.alloc | apply Kept.drewN | apply Kept.drew) | exact HK.out)⟩, ⟨by repeat (first | (with_reducible first | exact HB.out | apply below_alloc | apply pw_below_drewN | apply below_drew1) | exact HB.out)⟩⟩
  case round =>
    clear H'
    try clear c1
    try clear p2
    obtain ⟨x0_1, x1_1, x5_1, rfl, rfl, HA, HK1, HO_0, HK, HB⟩ := hrel
    cases gk with
    | zero => exact absurd HA.out (by simp [laws_markChordS.l0])
    | succ k1 =>
      have H := HA.out
      clear HA
      simp only [laws_markChordS.l0] at H
      by_cases c3 : x5_1 < (x0_1.length : Int)
      · rw [if_pos c3] at H
        have c3b0 : decide (x5_1 < (x0_1.length : Int)) = true := decide_eq_true c3
        clear c3
        by_cases c4 : 0 ≤ x5_1
        · rw [if_pos c4] at H
          have c4b0 : decide (0 ≤ x5_1) = true := decide_eq_true c4
          clear c4
          obtain ⟨y101, hy101⟩ : ∃ y_ : List (S64), y_ = (x0_1.set (x5_1 : Int).toNat (⟨x1_1, (rd_T64 x0_1 x5_1).f1⟩ : S64)) := ⟨_, rfl⟩
          replace H : (laws_markChordS.l0 k1 (y101.set (x5_1 : Int).toNat (⟨(rd_T64 y101 x5_1).f0, wrap64 (x1_1 + 1)⟩ : S64)) (wrap64 ((wrap64 (x1_1 + 1)) + 1)) (wrap64 (x5_1 + 1))) = some (r1, r2) := by first | (rw [hy101]; with_reducible exact H) | (have H2_ := (Option.bind_some _ _).symm.trans H; rw [hy101]; with_reducible exact H2_) | (have H2_ := (Option.bind_some _ _).symm.trans H; with_reducible exact H2_) | with_reducible exact H | (rw [hy101]; exact H) | exact H
          have Ny101 := Aside0.mk hy101
          clear hy101
          obtain ⟨y102, hy102⟩ : ∃ y_ : List (S64), y_ = (y101.set (x5_1 : Int).toNat (⟨(rd_T64 y101 x5_1).f0, wrap64 (x1_1 + 1)⟩ : S64)) := ⟨_, rfl⟩
          replace H : (laws_markChordS.l0 k1 y102 (wrap64 ((wrap64 (x1_1 + 1)) + 1)) (wrap64 (x5_1 + 1))) = some (r1, r2) := by first | (rw [hy102]; with_reducible exact H) | (have H2_ := (Option.bind_some _ _).symm.trans H; rw [hy102]; with_reducible exact H2_) | (have H2_ := (Option.bind_some _ _).symm.trans H; with_reducible exact H2_) | with_reducible exact H | (rw [hy102]; exact H) | exact H
          have Ny102 := Aside0.mk hy102
          clear hy102
          have H' := Aside0.mk H
          clear H
          obtain ⟨Ao7, co7, eo7⟩ := Kd.R_slice HO_0.out
          subst eo7
          have p5 : 0 ≤ (x5_1 : Int) := of_decide_eq_true (by first | (with_reducible assumption) | assumption)
          have q5 : (x5_1 : Int) < ((x0_1.length : Int) : Int) := of_decide_eq_true (by first | (with_reducible assumption) | assumption)
          obtain ⟨go5, co5, eo5, gb5, gl5, cl5, HG5⟩ := Kd.R_form HO_0.out (by omega)
          (first | cases eo5 | (injection eo5 with ea_ en_ ec_; (first | subst ea_ | (injection ea_ with ea_; subst ea_)); subst ec_; clear en_))
          have GB5 := Aside0.mk gb5
          have GG5 := Aside0.mk HG5
          clear gb5 gl5 HG5
          have HMgo5 := Aside0.mk (show (P0_ go5 ∨ w.heap.size ≤ go5) from (HO_0.out.1 _ rfl))
          obtain ⟨ce5, hcl5, hM5, hcc5, hfr5⟩ := Kd.R_elem HO_0.out z64 (x5_1 : Int) p5 q5
          obtain rfl := k64_openM hM5
          have hx5_0 : wr.cell? ⟨go5, (x5_1 : Int).toNat * 2, none⟩ = some (.int .i64 ((rd_T64 x0_1 x5_1).f0)) := hcc5 0 _ rfl
          have hx5_1 : wr.cell? ⟨go5, (x5_1 : Int).toNat * 2 + 1, none⟩ = some (.int .i64 ((rd_T64 x0_1 x5_1).f1)) := hcc5 1 _ rfl
          have hf5_0 : wr.frozen? ⟨go5, (x5_1 : Int).toNat * 2, none⟩ = false := hfr5 0
          have hf5_1 : wr.frozen? ⟨go5, (x5_1 : Int).toNat * 2 + 1, none⟩ = false := hfr5 1
          clear hcl5 hcc5 hfr5 hM5
          replace p5 := eq_true p5
          replace q5 := eq_true q5
          have HX8 := Aside0.mk (show Kd.R k64 64 wr w0.heap.size (fun k_ => (P0_ k_ ∨ w.heap.size ≤ k_)) (.slice (some ⟨go5, 0, none⟩) x0_1.length co7) x0_1 from (by (with_reducible repeat (first | apply Kd.R_alloc | apply Kd.R_drewN | apply Kd.R_drew)); exact HO_0.out))
          obtain ⟨ce8, hcl8, hM8, hcc8, hfr8⟩ := Kd.R_elem HX8.out z64 (x5_1 : Int) (of_decide_eq_true (by first | (with_reducible assumption) | assumption)) (by have h_ : (x5_1 : Int) < ((x0_1.length : Int) : Int) := of_decide_eq_true (by first | (with_reducible assumption) | assumption); first | exact h_ | (have e_ := (Kd.R_reads' HO_0.out).1; omega) | simpa using h_)
          obtain rfl := k64_openM hM8
          have HP8 := Kd.R_seg HX8.out (x5_1 : Int) (of_decide_eq_true (by first | (with_reducible assumption) | assumption)) (by have h_ : (x5_1 : Int) < ((x0_1.length : Int) : Int) := of_decide_eq_true (by first | (with_reducible assumption) | assumption); first | exact h_ | (have e_ := (Kd.R_reads' HO_0.out).1; omega) | simpa using h_) (seg := [.int .i64 x1_1]) (j := 0) hcl8 hcc8 (show 1 ≤ 2 from by decide) (x' := (⟨x1_1, (rd_T64 x0_1 x5_1).f1⟩ : S64)) (k64_mkM _ _ _ (⟨x1_1, (rd_T64 x0_1 x5_1).f1⟩ : S64) ) (fun _ hk => hk)
          have hx8_0 := hcc8 0 _ rfl
          (try simp only [show (k64).sz = 2 from rfl, Nat.mul_one, Nat.add_zero] at hx8_0)
          have hf8_0 := hfr8 0
          (try simp only [show (k64).sz = 2 from rfl, Nat.mul_one, Nat.add_zero] at hf8_0)
          clear hcl8 hcc8 hfr8 hM8
          go_wp2_with (first | ((with_reducible refine gate_store (t := 3) (p := 16) rfl ?_); refine store_event (t := 3) (p := 16) (v := ?vo_w9) (w1 := (wr.setCell ⟨go5, (x5_1 : Int).toNat * 2, none⟩ (.int .i64 x1_1))) ?hg ?ho ?hn ?hr ?_; (case ho => rfl); (case hg => rfl); (case hn => rfl); (case hr => first | (go_simp; done) | (go_simp; rfl)); intro w9 hw; have hg : wr.grownBy w9 (some go5) := (by rw [hw]; exact HP8.2); have hp_ : Kd.R k64 64 w9 w0.heap.size (fun k_ => (P0_ k_ ∨ w.heap.size ≤ k_)) (.slice (some ⟨go5, 0, none⟩) x0_1.length co7) y101 := (by rw [hw, Ny101.out]; exact HP8.1); clear HP8; have n0_ := Aside0.mk (hp_); have n1_ := Aside0.mk ((by rw [hw]; exact below_set (HB.out) GB5.out : Below w0.heap.size w0 w9)); have n2_ := Aside0.mk (Kept.of_grown (S := (fun k_ => P0_ k_)) hg (by repeat (first | (with_reducible first | exact HK.out | apply Kept.alloc | apply Kept.drewN | apply Kept.drew) | exact HK.out)) (fun k_ e_ => (HO_0.out.1 k_ e_))); clear HO_0; clear HB; clear HK; have HO_0 := n0_; have HB := n1_; have HK := n2_; clear n0_ n1_ n2_; clear hg hw hp_; have p6 : 0 ≤ (x5_1 : Int) := of_decide_eq_true (by first | (with_reducible assumption) | assumption); have q6 : (x5_1 : Int) < ((x0_1.length : Int) : Int) := of_decide_eq_true (by first | (with_reducible assumption) | assumption); obtain ⟨ce6, hcl6, hM6, hcc6, hfr6⟩ := Kd.R_elem HO_0.out z64 (x5_1 : Int) p6 q6; obtain rfl := k64_openM hM6; have hx6_0 : w9.cell? ⟨go5, (x5_1 : Int).toNat * 2, none⟩ = some (.int .i64 ((rd_T64 y101 x5_1).f0)) := hcc6 0 _ rfl; have hx6_1 : w9.cell? ⟨go5, (x5_1 : Int).toNat * 2 + 1, none⟩ = some (.int .i64 ((rd_T64 y101 x5_1).f1)) := hcc6 1 _ rfl; have hf6_0 : w9.frozen? ⟨go5, (x5_1 : Int).toNat * 2, none⟩ = false := hfr6 0; have hf6_1 : w9.frozen? ⟨go5, (x5_1 : Int).toNat * 2 + 1, none⟩ = false := hfr6 1; clear hcl6 hcc6 hfr6 hM6; replace p6 := eq_true p6; replace q6 := eq_true q6; have HX10 := Aside0.mk (show Kd.R k64 64 w9 w0.heap.size (fun k_ => (P0_ k_ ∨ w.heap.size ≤ k_)) (.slice (some ⟨go5, 0, none⟩) x0_1.length co7) y101 from (by (with_reducible repeat (first | apply Kd.R_alloc | apply Kd.R_drewN | apply Kd.R_drew)); exact HO_0.out)); obtain ⟨ce10, hcl10, hM10, hcc10, hfr10⟩ := Kd.R_elem HX10.out z64 (x5_1 : Int) (of_decide_eq_true (by first | (with_reducible assumption) | assumption)) (by have h_ : (x5_1 : Int) < ((x0_1.length : Int) : Int) := of_decide_eq_true (by first | (with_reducible assumption) | assumption); first | exact h_ | (have e_ := (Kd.R_reads' HO_0.out).1; omega) | simpa using h_); obtain rfl := k64_openM hM10; have HP10 := Kd.R_seg HX10.out (x5_1 : Int) (of_decide_eq_true (by first | (with_reducible assumption) | assumption)) (by have h_ : (x5_1 : Int) < ((x0_1.length : Int) : Int) := of_decide_eq_true (by first | (with_reducible assumption) | assumption); first | exact h_ | (have e_ := (Kd.R_reads' HO_0.out).1; omega) | simpa using h_) (seg := [.int .i64 (wrap64 (x1_1 + 1))]) (j := 1) hcl10 hcc10 (show 2 ≤ 2 from by decide) (x' := (⟨(rd_T64 y101 x5_1).f0, wrap64 (x1_1 + 1)⟩ : S64)) (k64_mkM _ _ _ (⟨(rd_T64 y101 x5_1).f0, wrap64 (x1_1 + 1)⟩ : S64) ) (fun _ hk => hk); have hx10_1 := hcc10 1 _ rfl; (try simp only [show (k64).sz = 2 from rfl, Nat.mul_one, Nat.add_zero] at hx10_1); have hf10_1 := hfr10 1; (try simp only [show (k64).sz = 2 from rfl, Nat.mul_one, Nat.add_zero] at hf10_1); clear hcl10 hcc10 hfr10 hM10) | ((with_reducible refine gate_store (t := 3) (p := 23) rfl ?_); refine store_event (t := 3) (p := 23) (v := ?vo_w11) (w1 := (w9.setCell ⟨go5, (x5_1 : Int).toNat * 2 + 1, none⟩ (.int .i64 (wrap64 (x1_1 + 1))))) ?hg ?ho ?hn ?hr ?_; (case ho => rfl); (case hg => rfl); (case hn => rfl); (case hr => first | (go_simp; done) | (go_simp; rfl)); intro w11 hw; have hg : w9.grownBy w11 (some go5) := (by rw [hw]; exact HP10.2); have hp_ : Kd.R k64 64 w11 w0.heap.size (fun k_ => (P0_ k_ ∨ w.heap.size ≤ k_)) (.slice (some ⟨go5, 0, none⟩) x0_1.length co7) y102 := (by rw [hw, Ny102.out]; exact HP10.1); clear HP10; have n0_ := Aside0.mk (hp_); have n1_ := Aside0.mk ((by rw [hw]; exact below_set (HB.out) GB5.out : Below w0.heap.size w0 w11)); have n2_ := Aside0.mk (Kept.of_grown (S := (fun k_ => P0_ k_)) hg (by repeat (first | (with_reducible first | exact HK.out | apply Kept.alloc | apply Kept.drewN | apply Kept.drew) | exact HK.out)) (fun k_ e_ => (HO_0.out.1 k_ e_))); clear HO_0; clear HB; clear HK; have HO_0 := n0_; have HB := n1_; have HK := n2_; clear n0_ n1_ n2_; clear hg hw hp_))
          go_roundg k1
          case measure => have := HK1.out; omega
          case rel => exact ⟨(y102), (wrap64 ((wrap64 (x1_1 + 1)) + 1)), (wrap64 (x5_1 + 1)), (by first | rfl | (simp; done) | (simp [*]; done)), (by first | rfl | (simp; done) | (simp [*]; done)), H', ⟨by have := HK1.out; omega⟩, ⟨by (with_reducible repeat (first | apply Kd.R_alloc | apply Kd.R_drewN | apply Kd.R_drew)); exact HO_0.out⟩, ⟨by repeat (first | (with_reducible first | exact HK.out | apply Kept.alloc | apply Kept.drewN | apply Kept.drew) | exact HK.out)⟩, ⟨by repeat (first | (with_reducible first | exact HB.out | apply below_alloc | apply pw_below_drewN | apply below_drew1) | exact HB.out)⟩⟩
        · rw [if_neg c4] at H
          exact absurd H (by simp)
      · rw [if_neg c3] at H
        have c3b0 : decide (x5_1 < (x0_1.length : Int)) = false := decide_eq_false c3
        clear c3
        simp only [Option.some.injEq, Prod.mk.injEq] at H
        obtain ⟨rfl, rfl⟩ := H
        obtain ⟨Ao12, co12, eo12⟩ := Kd.R_slice HO_0.out
        subst eo12
        go_wp2
        go_ret
        exact ⟨by first | rfl | (simp [errW_none, errW_some] <;> rfl) | (simp [*, errW_none, errW_some] <;> rfl), by (with_reducible repeat (first | apply Kd.R_alloc | apply Kd.R_drewN | apply Kd.R_drew)); exact HO_0.out, by repeat (first | (with_reducible first | exact HB.out | apply below_alloc | apply pw_below_drewN | apply below_drew1) | exact HB.out), by repeat (first | (with_reducible first | exact HK.out | apply Kept.alloc | apply Kept.drewN | apply Kept.drew) | exact HK.out)⟩
end Go.Proofs.Yteeghncofacmhaa.Q
end
section
namespace Go.Proofs.Yteeghncofacmhaa.Q
open Go.RowKit Go.Proofs.YteeghncofacmhaaW.PrintWords Go.Proofs.YteeghncofacmhaaW.PrintLast Go.Proofs.YteeghncofacmhaaW.PrintMore
attribute [local go_sem] max2_int min2_int max_two min_two max_three min_three max_four min_four   -- for this text's walks alone
set_option linter.unusedVariables false
set_option linter.unusedSimpArgs false
/-! ### laws_markIntS: function 17 -/
def laws_markIntS.l0 : Nat → List Int → Int → Int → Option (Int × List Int)
  | 0, _, _, _ => none
  | k + 1, x0, x1, x5 => if x5 < (x0.length : Int) then (if 0 ≤ x5 then (laws_markIntS.l0 k (x0.set (x5 : Int).toNat x1) (wrap64 (x1 + 1)) (wrap64 (x5 + 1))) else (none)) else (some (x1, x0))
def laws_markIntS.f (k : Nat) (l0 : List Int) (a1 : Int) : Option (Int × List Int) := laws_markIntS.l0 k l0 a1 0
set_option maxHeartbeats 8000000 in
set_option maxRecDepth 100000 in
theorem laws_markIntS.calls (k : Nat) (P0_ : Nat → Prop) (u9000_ : Value) (l0 : List Int) (a1 : Int) (r1 : Int) (r2 : List Int) (w0 w : World) (hB : Below w0.heap.size w0 w) (ho0 : Kd.R (Kd.int .i64) 3 w w0.heap.size P0_ u9000_ l0) (h : laws_markIntS.f k l0 a1 = some (r1, r2)) :
    Calls Try.prog 17 #[u9000_, .int .i64 a1] w fun e w' => e = .returned (.int .i64 r1) ∧ Kd.R (Kd.int .i64) 3 w' w0.heap.size (fun k_ => (P0_ k_ ∨ w.heap.size ≤ k_)) u9000_ r2 ∧ Below w0.heap.size w0 w' ∧ Kept w w' (fun k_ => P0_ k_) := by
  have HO0 := Aside0.mk (show Kd.R (Kd.int .i64) 3 w w0.heap.size (fun k_ => (P0_ k_ ∨ w.heap.size ≤ k_)) u9000_ l0 from Kd.R_mono ho0 (fun k_ hk => (.inl hk)))
  have HK := Aside0.mk (Kept.refl w (fun k_ => P0_ k_))
  have HW0 := Aside0.mk hB.size
  have HB := Aside0.mk hB
  clear hB
  have H : (laws_markIntS.l0 k l0 a1 0) = some (r1, r2) := h
  clear h
  have H' := Aside0.mk H
  clear H
  go_enter Try.func17, Try.ntmps17
  go_wp2
  go_loopg [1, 5] k (fun kq v1 v5 w' => ∃ (x0_1 : List Int) (x1_1 : Int) (x5_1 : Int), v1 = .int .i64 x1_1 ∧ v5 = .int .i64 x5_1 ∧ Aside0 (laws_markIntS.l0 kq x0_1 x1_1 x5_1 = some (r1, r2)) ∧ Aside0 (kq ≤ k) ∧ Aside0 (Kd.R (Kd.int .i64) 3 w' w0.heap.size (fun k_ => (P0_ k_ ∨ w.heap.size ≤ k_)) u9000_ x0_1) ∧ Aside0 (Kept w w' (fun k_ => P0_ k_)) ∧ Aside0 (Below w0.heap.size w0 w'))
  case atStart => exact ⟨(l0), (a1), (0), (by first | rfl | (simp; done) | (simp [*]; done)), (by first | rfl | (simp; done) | (simp [*]; done)), H', ⟨Nat.le_refl _⟩, ⟨by (with_reducible repeat (first | apply Kd.R_alloc | apply Kd.R_drewN | apply Kd.R_drew)); exact HO0.out⟩, ⟨by repeat (first | (with_reducible first | exact HK.out | apply Kept.alloc | apply Kept.drewN | apply Kept.drew) | exact HK.out)⟩, ⟨by repeat (first | (with_reducible first | exact HB.out | apply below_alloc | apply pw_below_drewN | apply below_drew1) | exact HB.out)⟩⟩
  case round =>
    clear H'
    try clear c1
    try clear p2
    obtain ⟨x0_1, x1_1, x5_1, rfl, rfl, HA, HK1, HO_0, HK, HB⟩ := hrel
    cases gk with
    | zero => exact absurd HA.out (by simp [laws_markIntS.l0])
    | succ k1 =>
      have H := HA.out
      clear HA
      simp only [laws_markIntS.l0] at H
      by_cases c3 : x5_1 < (x0_1.length : Int)
      · rw [if_pos c3] at H
        have c3b0 : decide (x5_1 < (x0_1.length : Int)) = true := decide_eq_true c3
        clear c3
        by_cases c4 : 0 ≤ x5_1
        · rw [if_pos c4] at H
          have c4b0 : decide (0 ≤ x5_1) = true := decide_eq_true c4
          clear c4
          obtain ⟨y101, hy101⟩ : ∃ y_ : List Int, y_ = (x0_1.set (x5_1 : Int).toNat x1_1) := ⟨_, rfl⟩
          replace H : (laws_markIntS.l0 k1 y101 (wrap64 (x1_1 + 1)) (wrap64 (x5_1 + 1))) = some (r1, r2) := by first | (rw [hy101]; with_reducible exact H) | (have H2_ := (Option.bind_some _ _).symm.trans H; rw [hy101]; with_reducible exact H2_) | (have H2_ := (Option.bind_some _ _).symm.trans H; with_reducible exact H2_) | with_reducible exact H | (rw [hy101]; exact H) | exact H
          have Ny101 := Aside0.mk hy101
          clear hy101
          have H' := Aside0.mk H
          clear H
          obtain ⟨Ao6, co6, eo6⟩ := Kd.R_slice HO_0.out
          subst eo6
          have p5 : 0 ≤ (x5_1 : Int) := of_decide_eq_true (by first | (with_reducible assumption) | assumption)
          have q5 : (x5_1 : Int) < ((x0_1.length : Int) : Int) := of_decide_eq_true (by first | (with_reducible assumption) | assumption)
          obtain ⟨go5, co5, eo5, gb5, gl5, cl5, HG5⟩ := Kd.R_form HO_0.out (by omega)
          (first | cases eo5 | (injection eo5 with ea_ en_ ec_; (first | subst ea_ | (injection ea_ with ea_; subst ea_)); subst ec_; clear en_))
          have GB5 := Aside0.mk gb5
          have GG5 := Aside0.mk HG5
          clear gb5 gl5 HG5
          have HMgo5 := Aside0.mk (show (P0_ go5 ∨ w.heap.size ≤ go5) from (HO_0.out.1 _ rfl))
          obtain ⟨hx5_0, hf5_0⟩ := Kd.R_celln 0 HO_0.out (x5_1 : Int) p5 q5
          replace p5 := eq_true p5
          replace q5 := eq_true q5
          have HP7 := Kd.R_putg HO_0.out (x5_1 : Int) x1_1
          go_wp2_with (first | ((with_reducible refine gate_store (t := 3) (p := 15) rfl ?_); refine store_event (t := 3) (p := 15) (v := ?vo_w8) (w1 := (wr.setCell ⟨go5, (x5_1 : Int).toNat, none⟩ (.int .i64 x1_1))) ?hg ?ho ?hn ?hr ?_; (case ho => rfl); (case hg => rfl); (case hn => rfl); (case hr => first | (go_simp; done) | (go_simp; rfl)); intro w8 hw; have hg : wr.grownBy w8 (some go5) := (by rw [hw]; exact HP7.2); have hp_ : Kd.R (Kd.int .i64) 3 w8 w0.heap.size (fun k_ => (P0_ k_ ∨ w.heap.size ≤ k_)) (.slice (some ⟨go5, 0, none⟩) x0_1.length co6) y101 := (by rw [hw, Ny101.out]; exact HP7.1); clear HP7; have n0_ := Aside0.mk (hp_); have n1_ := Aside0.mk ((by rw [hw]; exact below_set (HB.out) GB5.out : Below w0.heap.size w0 w8)); have n2_ := Aside0.mk (Kept.of_grown (S := (fun k_ => P0_ k_)) hg (by repeat (first | (with_reducible first | exact HK.out | apply Kept.alloc | apply Kept.drewN | apply Kept.drew) | exact HK.out)) (fun k_ e_ => (HO_0.out.1 k_ e_))); clear HO_0; clear HB; clear HK; have HO_0 := n0_; have HB := n1_; have HK := n2_; clear n0_ n1_ n2_; clear hg hw hp_))
          go_roundg k1
          case measure => have := HK1.out; omega
          case rel => exact ⟨(y101), (wrap64 (x1_1 + 1)), (wrap64 (x5_1 + 1)), (by first | rfl | (simp; done) | (simp [*]; done)), (by first | rfl | (simp; done) | (simp [*]; done)), H', ⟨by have := HK1.out; omega⟩, ⟨by (with_reducible repeat (first | apply Kd.R_alloc | apply Kd.R_drewN | apply Kd.R_drew)); exact HO_0.out⟩, ⟨by repeat (first | (with_reducible first | exact HK.out | apply Kept.alloc | apply Kept.drewN | apply Kept.drew) | exact HK.out)⟩, ⟨by repeat (first | (with_reducible first | exact HB.out | apply below_alloc | apply pw_below_drewN | apply below_drew1) | exact HB.out)⟩⟩
        · rw [if_neg c4] at H
          exact absurd H (by simp)
      · rw [if_neg c3] at H
        have c3b0 : decide (x5_1 < (x0_1.length : Int)) = false := decide_eq_false c3
        clear c3
        simp only [Option.some.injEq, Prod.mk.injEq] at H
        obtain ⟨rfl, rfl⟩ := H
        obtain ⟨Ao9, co9, eo9⟩ := Kd.R_slice HO_0.out
        subst eo9
        go_wp2
        go_ret
        exact ⟨by first | rfl | (simp [errW_none, errW_some] <;> rfl) | (simp [*, errW_none, errW_some] <;> rfl), by (with_reducible repeat (first | apply Kd.R_alloc | apply Kd.R_drewN | apply Kd.R_drew)); exact HO_0.out, by repeat (first | (with_reducible first | exact HB.out | apply below_alloc | apply pw_below_drewN | apply below_drew1) | exact HB.out), by repeat (first | (with_reducible first | exact HK.out | apply Kept.alloc | apply Kept.drewN | apply Kept.drew) | exact HK.out)⟩
end Go.Proofs.Yteeghncofacmhaa.Q
end
