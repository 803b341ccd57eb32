/- The proof of FnExactFlipDiagonal, part 4 of 7; no condition: the statement as it is given. Merged by pack.py out of this session's texts. -/
import Derived.Shelf.SlGeneric
import Derived.Shelf.SlSortCmp.WholeK
import Derived.Shelf.SlicesQ.IndexFunc
import Derived.Shelf.SlicesE.IndexFunc
import Derived.Shelf.SlicesE.Clone
import Derived.Shelf.SlicesE.Compact
import Derived.Ground.SlsfProg
import Derived.Ground.SlgfProg
import Derived.Ground.SlgnProg
import Derived.Ground.NamesProg
import Derived.Test.YteeghncofacmhaaProg
import Derived.Shelf.SlSortCmp.NoneTotal
import Derived.Shelf.Abstract
import Derived.Test.YteeghncofacmhaaMf2
import Derived.Test.YteeghncofacmhaaMf1
import Derived.Test.YteeghncofacmhaaMf0
section
/- Regions of plane sets of chords, as_ sets of points: the plain theory. No program is walked here. -/
namespace Go.Proofs.Yteeghncofacmhaa.Q
open Go.RowKit Go.Proofs.YteeghncofacmhaaW.PrintWords Go.Proofs.YteeghncofacmhaaW.PrintLast Go.Proofs.YteeghncofacmhaaW.PrintMore
set_option linter.unusedVariables false
set_option linter.unusedSimpArgs false
/-- Chords of n points, no two of which cross. -/
structure NC (n : Int) (l : List Ch) : Prop where
  ok : ∀ c ∈ l, 0 ≤ c.f0 ∧ c.f0 < c.f1 ∧ c.f1 < n
  nc : ∀ c ∈ l, ∀ d ∈ l, ¬ (c.f0 < d.f0 ∧ d.f0 < c.f1 ∧ c.f1 < d.f1)
theorem NC.sub {n : Int} {l l' : List Ch} (h : NC n l) (hs : ∀ c ∈ l', c ∈ l) : NC n l' := ⟨fun c hc => h.ok c (hs c hc), fun c hc d hd => h.nc c (hs c hc) d (hs d hd)⟩
/-- A chord lies below a place: the whole circle's, or a chord's inner side. -/
def below_ (d : Ch) : Option Ch → Prop
  | none => True
  | some c => d ≠ c ∧ c.f0 ≤ d.f0 ∧ d.f1 ≤ c.f1
instance instDecBelow (d : Ch) (q : Option Ch) : Decidable (below_ d q) := by cases q <;> unfold below_ <;> infer_instance
def within_ (x : Int) : Option Ch → Prop
  | none => True
  | some c => c.f0 ≤ x ∧ x ≤ c.f1
instance instDecWithin (x : Int) (q : Option Ch) : Decidable (within_ x q) := by cases q <;> unfold within_ <;> infer_instance
/-- The points of the region beside q's inner side. -/
def InF (l : List Ch) (q : Option Ch) (x : Int) : Prop := within_ x q ∧ ∀ d ∈ l, below_ d q → ¬ (d.f0 < x ∧ x < d.f1)
instance instDecInF (l : List Ch) (q : Option Ch) (x : Int) : Decidable (InF l q x) := by unfold InF; infer_instance
def ints (a : Int) (m : Nat) : List Int := (List.range m).map fun (i : Nat) => a + (i : Int)
theorem ints_succ (a : Int) (m : Nat) : ints a (m + 1) = a :: ints (a + 1) m := by
  unfold ints
  rw [List.range_succ_eq_map, List.map_cons, List.map_map]
  congr 1
  · simp
  · apply List.map_congr_left
    intro i _
    simp; omega
theorem mem_ints {a x : Int} {m : Nat} : x ∈ ints a m ↔ a ≤ x ∧ x < a + m := by
  unfold ints
  rw [List.mem_map]
  constructor
  · rintro ⟨i, hi, rfl⟩
    have := List.mem_range.1 hi; omega
  · rintro ⟨h1, h2⟩
    exact ⟨(x - a).toNat, List.mem_range.2 (by omega), by omega⟩
theorem ints_zero (m : Nat) : ints 0 m = (List.range m).map Int.ofNat := by
  unfold ints
  apply List.map_congr_left
  intro i _
  simp
theorem ints_lt (a : Int) : ∀ m : Nat, (ints a m).Pairwise (· < ·) := by
  intro m
  induction m generalizing a with
  | zero => exact .nil
  | succ m ih =>
    rw [ints_succ]
    exact List.pairwise_cons.2 ⟨fun x hx => by have := mem_ints.1 hx; omega, ih (a + 1)⟩
theorem ints_append (a : Int) (m k : Nat) : ints a (m + k) = ints a m ++ ints (a + m) k := by
  unfold ints
  rw [List.range_add, List.map_append, List.map_map]
  congr 1
  apply List.map_congr_left
  intro i _
  simp; omega
def face (n : Int) (l : List Ch) (q : Option Ch) : List Int := (ints 0 n.toNat).filter fun x => decide (InF l q x)
theorem mem_face {n : Int} {l : List Ch} {q : Option Ch} {x : Int} : x ∈ face n l q ↔ (0 ≤ x ∧ x < n) ∧ InF l q x := by
  unfold face
  rw [List.mem_filter, mem_ints, decide_eq_true_iff]
  constructor
  · rintro ⟨h1, h2⟩; exact ⟨by omega, h2⟩
  · rintro ⟨h1, h2⟩; exact ⟨by omega, h2⟩
theorem face_lt (n : Int) (l : List Ch) (q : Option Ch) : (face n l q).Pairwise (· < ·) := (ints_lt 0 _).filter _
/-- Whoever lies in one of two chords that do not cross, and they are not one: nested. -/
theorem nested {n : Int} {l : List Ch} (h : NC n l) {c d : Ch} (hc : c ∈ l) (hd : d ∈ l) (hne : c ≠ d) {a b : Int} (hab : a < b) (h1 : c.f0 ≤ a ∧ b ≤ c.f1) (h2 : d.f0 ≤ a ∧ b ≤ d.f1) : below_ c (some d) ∨ below_ d (some c) := by
  have n1 := h.nc c hc d hd
  have n2 := h.nc d hd c hc
  by_cases h3 : d.f0 ≤ c.f0 ∧ c.f1 ≤ d.f1
  · exact .inl ⟨hne, h3⟩
  · refine .inr ⟨fun e => hne e.symm, by omega, by omega⟩
/-- Two regions that share two points share the chord that joins them. -/
theorem shared {n : Int} {l : List Ch} (h : NC n l) {q q' : Option Ch} (hq : ∀ c, q = some c → c ∈ l) (hq' : ∀ c, q' = some c → c ∈ l) (hne : q ≠ q') {a b : Int} (hab : a < b)
    (ha : InF l q a) (hb : InF l q b) (ha' : InF l q' a) (hb' : InF l q' b) : ∃ c ∈ l, c.f0 = a ∧ c.f1 = b ∧ ((q = some c ∧ below_ c q') ∨ (q' = some c ∧ below_ c q)) := by
  have key : ∀ (c : Ch) (p : Option Ch), c ∈ l → below_ c p → InF l (some c) a → InF l (some c) b → InF l p a → InF l p b → c.f0 = a ∧ c.f1 = b := by
    intro c p hc hbl h1 h2 h3 h4
    have e1 := h3.2 c hc hbl
    have e2 := h4.2 c hc hbl
    have w1 : c.f0 ≤ a ∧ a ≤ c.f1 := h1.1
    have w2 : c.f0 ≤ b ∧ b ≤ c.f1 := h2.1
    omega
  cases q with
  | none =>
    cases q' with
    | none => exact absurd rfl hne
    | some d =>
      have hd := hq' d rfl
      have := key d none hd trivial ha' hb' ha hb
      exact ⟨d, hd, this.1, this.2, .inr ⟨rfl, trivial⟩⟩
  | some c =>
    have hc := hq c rfl
    cases q' with
    | none =>
      have := key c none hc trivial ha hb ha' hb'
      exact ⟨c, hc, this.1, this.2, .inl ⟨rfl, trivial⟩⟩
    | some d =>
      have hd := hq' d rfl
      have hcd : c ≠ d := fun e => hne (by rw [e])
      have w1 : c.f0 ≤ a ∧ a ≤ c.f1 := ha.1
      have w2 : c.f0 ≤ b ∧ b ≤ c.f1 := hb.1
      have w3 : d.f0 ≤ a ∧ a ≤ d.f1 := ha'.1
      have w4 : d.f0 ≤ b ∧ b ≤ d.f1 := hb'.1
      rcases nested h hc hd hcd hab ⟨w1.1, w2.2⟩ ⟨w3.1, w4.2⟩ with hb1 | hb1
      · have := key c (some d) hc hb1 ha hb ha' hb'
        exact ⟨c, hc, this.1, this.2, .inl ⟨rfl, hb1⟩⟩
      · have := key d (some c) hd hb1 ha' hb' ha hb
        exact ⟨d, hd, this.1, this.2, .inr ⟨rfl, hb1⟩⟩
/-! ### one chord more -/
def meas (n : Int) : Option Ch → Nat
  | none => n.toNat
  | some d => (d.f1 - d.f0).toNat
theorem notIn {l : List Ch} {q : Option Ch} {x : Int} (hw : within_ x q) (h : ¬ InF l q x) : ∃ d ∈ l, below_ d q ∧ d.f0 < x ∧ x < d.f1 :=
  Classical.byContradiction fun hn => h ⟨hw, fun d hd hb hx => hn ⟨d, hd, hb, hx⟩⟩
theorem meas_lt {n : Int} {l : List Ch} (h : NC n l) {d : Ch} (hd : d ∈ l) {q : Option Ch} (hq : ∀ e, q = some e → e ∈ l) (hb : below_ d q) : meas n (some d) < meas n q := by
  have h1 := h.ok d hd
  cases q with
  | none => simp only [meas]; omega
  | some e =>
    have h2 := h.ok e (hq e rfl)
    obtain ⟨hne, h3, h4⟩ := hb
    simp only [meas]
    have : ¬ (d.f0 = e.f0 ∧ d.f1 = e.f1) := fun he => hne (ch_ext he.1 he.2)
    omega
/-- Where a new chord lies: some region has both its points. -/
theorem home {n : Int} {l : List Ch} {c : Ch} (h : NC n (c :: l)) (hc : c ∉ l) : ∀ (m : Nat) (q : Option Ch), (∀ d, q = some d → d ∈ l) → meas n q ≤ m → below_ c q →
    ∃ p : Option Ch, (∀ d, p = some d → d ∈ l) ∧ below_ c p ∧ InF l p c.f0 ∧ InF l p c.f1 := by
  have hl : NC n l := h.sub (fun d hd => List.mem_cons_of_mem _ hd)
  have hco := h.ok c List.mem_cons_self
  intro m
  induction m with
  | zero =>
    intro q hq hm hb
    cases q with
    | none => simp only [meas] at hm; omega
    | some d => have := hl.ok d (hq d rfl); simp only [meas] at hm; omega
  | succ m ih =>
    intro q hq hm hb
    have w0 : within_ c.f0 q := by cases q with
      | none => trivial
      | some e => exact ⟨hb.2.1, by have := hb.2.2; omega⟩
    have w1 : within_ c.f1 q := by cases q with
      | none => trivial
      | some e => exact ⟨by have := hb.2.1; omega, hb.2.2⟩
    have go : ∀ d ∈ l, below_ d q → (d.f0 < c.f0 ∧ c.f0 < d.f1 ∨ d.f0 < c.f1 ∧ c.f1 < d.f1) → ∃ p : Option Ch, (∀ d, p = some d → d ∈ l) ∧ below_ c p ∧ InF l p c.f0 ∧ InF l p c.f1 := by
      intro d hd hbd hx
      have n1 := h.nc d (List.mem_cons_of_mem _ hd) c List.mem_cons_self
      have n2 := h.nc c List.mem_cons_self d (List.mem_cons_of_mem _ hd)
      have := meas_lt hl hd hq hbd
      refine ih (some d) (fun e he => by injection he with he; exact he ▸ hd) (by omega) ⟨fun e => hc (e ▸ hd), by omega, by omega⟩
    by_cases i0 : InF l q c.f0
    · by_cases i1 : InF l q c.f1
      · exact ⟨q, hq, hb, i0, i1⟩
      · obtain ⟨d, hd, hbd, hx⟩ := notIn w1 i1
        exact go d hd hbd (.inr hx)
    · obtain ⟨d, hd, hbd, hx⟩ := notIn w0 i0
      exact go d hd hbd (.inl hx)
section
variable {n : Int} {l : List Ch} {c : Ch} {p : Option Ch}
/-- The region that is parted: its inner side. -/
theorem part_in (h : NC n (c :: l)) (hc : c ∉ l) (hp : ∀ d, p = some d → d ∈ l) (hb : below_ c p) (h0 : InF l p c.f0) (h1 : InF l p c.f1) (x : Int) :
    InF (l ++ [c]) (some c) x ↔ InF l p x ∧ c.f0 ≤ x ∧ x ≤ c.f1 := by
  have hco := h.ok c List.mem_cons_self
  constructor
  · rintro ⟨hw, ha⟩
    have hw' : c.f0 ≤ x ∧ x ≤ c.f1 := hw
    refine ⟨⟨?_, fun d hd hbd hx => ?_⟩, hw'⟩
    · cases p with
      | none => trivial
      | some e => exact ⟨by have := hb.2.1; omega, by have := hb.2.2; omega⟩
    · have n1 := h.nc d (List.mem_cons_of_mem _ hd) c List.mem_cons_self
      have n2 := h.nc c List.mem_cons_self d (List.mem_cons_of_mem _ hd)
      have e0 := h0.2 d hd hbd
      have e1 := h1.2 d hd hbd
      have hdc : d ≠ c := fun e => hc (e ▸ hd)
      have hne : ¬ (d.f0 = c.f0 ∧ d.f1 = c.f1) := fun he => hdc (ch_ext he.1 he.2)
      exact ha d (List.mem_append_left _ hd) ⟨hdc, by omega, by omega⟩ hx
  · rintro ⟨⟨hw, ha⟩, hx⟩
    refine ⟨hx, fun d hd hbd hdx => ?_⟩
    rcases List.mem_append.1 hd with hd | hd
    · refine ha d hd ?_ hdx
      cases p with
      | none => trivial
      | some e =>
        have hb' : c ≠ e ∧ e.f0 ≤ c.f0 ∧ c.f1 ≤ e.f1 := hb
        have hbd' : d ≠ c ∧ c.f0 ≤ d.f0 ∧ d.f1 ≤ c.f1 := hbd
        refine ⟨fun e' => ?_, by omega, by omega⟩
        subst e'
        exact hb'.1 (ch_ext (by omega) (by omega))
    · exact hbd.1 (List.mem_singleton.1 hd)
/-- .. and its outer side. -/
theorem part_out (h : NC n (c :: l)) (hb : below_ c p) (x : Int) : InF (l ++ [c]) p x ↔ InF l p x ∧ (x ≤ c.f0 ∨ c.f1 ≤ x) := by
  constructor
  · rintro ⟨hw, ha⟩
    refine ⟨⟨hw, fun d hd => ha d (List.mem_append_left _ hd)⟩, ?_⟩
    have := ha c (List.mem_append_right _ List.mem_cons_self) hb
    omega
  · rintro ⟨⟨hw, ha⟩, hx⟩
    refine ⟨hw, fun d hd hbd hdx => ?_⟩
    rcases List.mem_append.1 hd with hd | hd
    · exact ha d hd hbd hdx
    · rw [List.mem_singleton.1 hd] at hdx; omega
/-- Every other region stays. -/
theorem part_other (h : NC n (c :: l)) (hc : c ∉ l) (hp : ∀ d, p = some d → d ∈ l) (hb : below_ c p) (h0 : InF l p c.f0) (h1 : InF l p c.f1) {q : Option Ch} (hq : ∀ d, q = some d → d ∈ l) (hne : q ≠ p) (x : Int) :
    InF (l ++ [c]) q x ↔ InF l q x := by
  have hl : NC n l := h.sub (fun d hd => List.mem_cons_of_mem _ hd)
  have hco := h.ok c List.mem_cons_self
  constructor
  · rintro ⟨hw, ha⟩
    exact ⟨hw, fun d hd => ha d (List.mem_append_left _ hd)⟩
  · rintro ⟨hw, ha⟩
    refine ⟨hw, fun d hd hbd hdx => ?_⟩
    rcases List.mem_append.1 hd with hd | hd
    · exact ha d hd hbd hdx
    · rw [List.mem_singleton.1 hd] at hbd hdx
      have w0 : within_ c.f0 q := by cases q with
        | none => trivial
        | some e => exact ⟨hbd.2.1, by have := hbd.2.2; omega⟩
      have w1 : within_ c.f1 q := by cases q with
        | none => trivial
        | some e => exact ⟨by have := hbd.2.1; omega, hbd.2.2⟩
      have go : ∀ e ∈ l, below_ e q → (e.f0 < c.f0 ∧ c.f0 < e.f1 ∨ e.f0 < c.f1 ∧ c.f1 < e.f1) → False := by
        intro e he hbe hx
        have n1 := h.nc e (List.mem_cons_of_mem _ he) c List.mem_cons_self
        have n2 := h.nc c List.mem_cons_self e (List.mem_cons_of_mem _ he)
        exact ha e he hbe (by omega)
      by_cases i0 : InF l q c.f0
      · by_cases i1 : InF l q c.f1
        · obtain ⟨d, hd, e0, e1, _⟩ := shared hl hq hp hne hco.2.1 i0 i1 h0 h1
          exact hc (ch_ext e0 e1 ▸ hd)
        · obtain ⟨e, he, hbe, hx⟩ := notIn w1 i1
          exact go e he hbe (.inr hx)
      · obtain ⟨e, he, hbe, hx⟩ := notIn w0 i0
        exact go e he hbe (.inl hx)
end
/-- The places of a set: the whole circle's, and each chord's. -/
def ids (l : List Ch) : List (Option Ch) := none :: l.map some
theorem mem_ids {l : List Ch} {q : Option Ch} : q ∈ ids l ↔ ∀ d, q = some d → d ∈ l := by
  unfold ids
  cases q with
  | none => simp
  | some c => simp
theorem ids_nodup {l : List Ch} (h : l.Nodup) : (ids l).Nodup := by
  unfold ids
  rw [List.nodup_cons]
  refine ⟨by simp, ?_⟩
  rw [List.nodup_iff_pairwise_ne, List.pairwise_map]
  exact (List.nodup_iff_pairwise_ne.1 h).imp (fun hab he => hab (Option.some.inj he))
theorem ids_snoc (l : List Ch) (c : Ch) : ids (l ++ [c]) = ids l ++ [some c] := by simp [ids]
theorem hit_iff {n : Int} {l : List Ch} {q : Option Ch} {c : Ch} (hc : 0 ≤ c.f0 ∧ c.f0 < c.f1 ∧ c.f1 < n) : reHit c.f0 c.f1 (face n l q) = true ↔ InF l q c.f0 ∧ InF l q c.f1 := by
  unfold reHit
  rw [Bool.and_eq_true, List.contains_iff_mem, List.contains_iff_mem, mem_face, mem_face]
  constructor
  · rintro ⟨h1, h2⟩; exact ⟨h1.2, h2.2⟩
  · rintro ⟨h1, h2⟩; exact ⟨⟨⟨by omega, by omega⟩, h1⟩, ⟨⟨by omega, by omega⟩, h2⟩⟩
theorem filter_face {n : Int} {l l' : List Ch} {q q' : Option Ch} {p : Int → Bool} (h : ∀ x, InF l' q' x ↔ InF l q x ∧ p x = true) : (face n l q).filter p = face n l' q' := by
  unfold face
  rw [List.filter_filter]
  apply List.filter_congr
  intro x _
  rw [Bool.eq_iff_iff, Bool.and_eq_true, decide_eq_true_iff, decide_eq_true_iff, h x]
  exact And.comm
/-- One step of the reference: the regions of one chord more. -/
theorem step_perm {n : Int} {l : List Ch} {c : Ch} (h : NC n (c :: l)) (hc : c ∉ l) (hnd : l.Nodup) {rs : List (List Int)} (hr : rs.Perm ((ids l).map (face n l))) : (reStep rs c).Perm ((ids (l ++ [c])).map (face n (l ++ [c]))) := by
  have hl : NC n l := h.sub (fun d hd => List.mem_cons_of_mem _ hd)
  have hco := h.ok c List.mem_cons_self
  obtain ⟨p, hp, hb, h0, h1⟩ := home h hc (meas n none) none (fun d hd => by cases hd) (Nat.le_refl _) trivial
  have hpm : p ∈ ids l := mem_ids.2 hp
  have hface : face n l p ∈ rs := hr.mem_iff.2 (List.mem_map.2 ⟨p, hpm, rfl⟩)
  have hhit : reHit c.f0 c.f1 (face n l p) = true := (hit_iff hco).2 ⟨h0, h1⟩
  unfold reStep
  cases hf : rs.findIdx? (reHit c.f0 c.f1) with
  | none =>
    have := List.findIdx?_eq_none_iff.1 hf _ hface
    rw [hhit] at this; cases this
  | some i =>
    obtain ⟨hi, hi2, _⟩ := List.findIdx?_eq_some_iff_getElem.1 hf
    obtain ⟨q, hq, he⟩ := List.mem_map.1 (hr.mem_iff.1 (List.getElem_mem hi))
    have hqp : q = p := by
      refine Classical.byContradiction fun hne => ?_
      rw [← he, hit_iff hco] at hi2
      obtain ⟨d, hd, e0, e1, _⟩ := shared hl (mem_ids.1 hq) hp hne hco.2.1 hi2.1 hi2.2 h0 h1
      exact hc (ch_ext e0 e1 ▸ hd)
    subst hqp
    have hg : rs.getD i [] = face n l q := by rw [List.getD_eq_getElem?_getD, List.getElem?_eq_getElem hi, he]; rfl
    show (rs.take i ++ [reIn c.f0 c.f1 (rs.getD i []), reOut c.f0 c.f1 (rs.getD i [])] ++ rs.drop (i + 1)).Perm _
    rw [hg]
    have e1 : reIn c.f0 c.f1 (face n l q) = face n (l ++ [c]) (some c) := filter_face (fun x => by rw [part_in h hc hp hb h0 h1]; simp)
    have e2 : reOut c.f0 c.f1 (face n l q) = face n (l ++ [c]) q := filter_face (fun x => by rw [part_out h hb]; simp)
    rw [e1, e2]
    have hids := List.perm_cons_erase hpm
    have hrest : (rs.take i ++ rs.drop (i + 1)).Perm (((ids l).erase q).map (face n l)) := by
      have h2 : (face n l q :: (rs.take i ++ rs.drop (i + 1))).Perm rs := by
        have h3 : rs = rs.take i ++ face n l q :: rs.drop (i + 1) := by
          rw [he, List.getElem_cons_drop, List.take_append_drop]
        refine List.perm_middle.symm.trans ?_
        rw [← h3]
      exact List.Perm.cons_inv (h2.trans (hr.trans (hids.map _)))
    have hsame : ((ids l).erase q).map (face n l) = ((ids l).erase q).map (face n (l ++ [c])) := by
      apply List.map_congr_left
      intro q' hq'
      have hm : q' ∈ ids l := List.mem_of_mem_erase hq'
      have hne : q' ≠ q := fun e => by
        rw [e] at hq'
        exact (List.Nodup.not_mem_erase (ids_nodup hnd)) hq'
      unfold face
      apply List.filter_congr
      intro x _
      rw [decide_eq_decide]
      exact (part_other h hc hp hb h0 h1 (mem_ids.1 hm) hne x).symm
    rw [ids_snoc, List.map_append]
    have h5 : ((ids l).map (face n (l ++ [c]))).Perm (face n (l ++ [c]) q :: (rs.take i ++ rs.drop (i + 1))) := by
      refine (hids.map _).trans ?_
      rw [List.map_cons, ← hsame]
      exact List.Perm.cons _ hrest.symm
    refine List.Perm.symm ?_
    refine (List.Perm.append_right _ h5).trans ?_
    refine List.perm_append_comm.trans ?_
    simp only [List.map_cons, List.map_nil, List.cons_append, List.nil_append]
    rw [List.append_assoc]
    exact (List.perm_append_comm_assoc [face n (l ++ [c]) (some c), face n (l ++ [c]) q] (rs.take i) (rs.drop (i + 1)))
theorem steps_perm {n : Int} {l : List Ch} (h : NC n l) (hnd : l.Nodup) : (l.foldl reStep [ints 0 n.toNat]).Perm ((ids l).map (face n l)) := by
  have key : ∀ (l2 l1 : List Ch) (rs : List (List Int)), l1 ++ l2 = l → rs.Perm ((ids l1).map (face n l1)) → (l2.foldl reStep rs).Perm ((ids l).map (face n l)) := by
    intro l2
    induction l2 with
    | nil => intro l1 rs he hr; rw [List.append_nil] at he; subst he; exact hr
    | cons c l2 ih =>
      intro l1 rs he hr
      have hnd2 : (l1 ++ c :: l2).Nodup := he ▸ hnd
      have hnd3 := List.nodup_append.1 hnd2
      have hc : c ∉ l1 := fun hm => hnd3.2.2 c hm c List.mem_cons_self rfl
      have hn : NC n (c :: l1) := h.sub (fun d hd => by
        rw [← he]
        rcases List.mem_cons.1 hd with rfl | hd
        · exact List.mem_append_right _ List.mem_cons_self
        · exact List.mem_append_left _ hd)
      exact ih (l1 ++ [c]) (reStep rs c) (by rw [← he]; simp) (step_perm hn hc hnd3.1 hr)
  refine key l [] _ rfl ?_
  have : face n [] none = ints 0 n.toNat := by
    unfold face
    rw [List.filter_eq_self]
    intro x _
    rw [decide_eq_true_iff]
    exact ⟨trivial, fun d hd => by simp at hd⟩
  simp [ids, this]
end Go.Proofs.Yteeghncofacmhaa.Q
end
section
/- What the program's walk round a region tells: the region's points, its chords, its arcs; regions are not alike; and both ways of ordering them. -/
namespace Go.Proofs.Yteeghncofacmhaa.Q
open Go.RowKit Go.Proofs.YteeghncofacmhaaW.PrintWords Go.Proofs.YteeghncofacmhaaW.PrintLast Go.Proofs.YteeghncofacmhaaW.PrintMore
set_option linter.unusedVariables false
set_option linter.unusedSimpArgs false
theorem nextOf_spec (hi : Int) (ex : Option Ch) (at_ : Int) : ∀ (l : List Ch) (nx : Int),
    (nextOf hi ex at_ l nx = nx ∨ ∃ d ∈ l, d.f0 = at_ ∧ d.f1 ≤ hi ∧ ¬ some d = ex ∧ nextOf hi ex at_ l nx = d.f1) ∧ ∀ d ∈ l, d.f0 = at_ → d.f1 ≤ hi → ¬ some d = ex → d.f1 ≤ nextOf hi ex at_ l nx
  | [], nx => ⟨.inl rfl, fun d hd => by simp at hd⟩
  | e :: l, nx => by
    simp only [nextOf]
    by_cases h : e.f0 = at_ ∧ e.f1 ≤ hi ∧ nx < e.f1 ∧ ¬ some e = ex
    · rw [if_pos h]
      obtain ⟨h1, h2⟩ := nextOf_spec hi ex at_ l e.f1
      refine ⟨.inr ?_, fun d hd => ?_⟩
      · rcases h1 with h1 | ⟨d, hd, e1, e2, e3, e4⟩
        · exact ⟨e, List.mem_cons_self, h.1, h.2.1, h.2.2.2, h1⟩
        · exact ⟨d, List.mem_cons_of_mem _ hd, e1, e2, e3, e4⟩
      · rcases List.mem_cons.1 hd with rfl | hd
        · intro _ _ _; exact nextOf_ge hi ex at_ l _
        · exact h2 d hd
    · rw [if_neg h]
      obtain ⟨h1, h2⟩ := nextOf_spec hi ex at_ l nx
      refine ⟨?_, fun d hd => ?_⟩
      · rcases h1 with h1 | ⟨d, hd, e1⟩
        · exact .inl h1
        · exact .inr ⟨d, List.mem_cons_of_mem _ hd, e1⟩
      · rcases List.mem_cons.1 hd with rfl | hd
        · intro e1 e2 e3
          have : ¬ nx < d.f1 := fun e4 => h ⟨e1, e2, e4, e3⟩
          exact Int.le_trans (by omega) (nextOf_ge hi ex at_ l nx)
        · exact h2 d hd
def hiOf (n : Int) : Option Ch → Int
  | none => n - 1
  | some c => c.f1
def loOf : Option Ch → Int
  | none => 0
  | some c => c.f0
section
variable {n : Int} {l : List Ch} {q : Option Ch}
theorem cand_iff (h : NC n l) {d : Ch} (hd : d ∈ l) {a : Int} (ha : d.f0 = a) (hlo : loOf q ≤ a) : (d.f1 ≤ hiOf n q ∧ ¬ some d = q) ↔ below_ d q := by
  have := h.ok d hd
  cases q with
  | none => simp only [hiOf, below_]; constructor
            · intro _; trivial
            · intro _; exact ⟨by omega, by simp⟩
  | some c =>
    have hlo' : c.f0 ≤ a := hlo
    simp only [hiOf, below_]
    constructor
    · rintro ⟨h1, h2⟩; exact ⟨fun e => h2 (by rw [e]), by omega, h1⟩
    · rintro ⟨h1, h2, h3⟩; exact ⟨h3, fun e => h1 (Option.some.inj e)⟩
theorem lo_of_in (h : NC n l) (hq : ∀ d, q = some d → d ∈ l) {x : Int} (hx : InF l q x) (h0 : 0 ≤ x) : loOf q ≤ x := by
  cases q with
  | none => exact h0
  | some c => exact hx.1.1
/-- A chord leads on: to the next point of the region. -/
theorem jump (h : NC n l) (hq : ∀ d, q = some d → d ∈ l) {a : Int} (h0 : 0 ≤ a) (ha : InF l q a) (hg : nextOf (hiOf n q) q a l a > a) :
    (⟨a, nextOf (hiOf n q) q a l a⟩ : Ch) ∈ l ∧ below_ ⟨a, nextOf (hiOf n q) q a l a⟩ q ∧ InF l q (nextOf (hiOf n q) q a l a) ∧ ∀ x, a < x → x < nextOf (hiOf n q) q a l a → ¬ InF l q x := by
  obtain ⟨h1, h2⟩ := nextOf_spec (hiOf n q) q a l a
  rcases h1 with h1 | ⟨d, hd, e1, e2, e3, e4⟩
  · omega
  · have hlo := lo_of_in h hq ha h0
    have hbd : below_ d q := (cand_iff h hd e1 hlo).1 ⟨e2, e3⟩
    have hde : d = ⟨a, nextOf (hiOf n q) q a l a⟩ := ch_ext e1 e4.symm
    rw [e4] at h2 ⊢
    have hde' : d = ⟨a, d.f1⟩ := ch_ext e1 rfl
    refine ⟨hde' ▸ hd, hde' ▸ hbd, ⟨?_, fun e he hbe hx => ?_⟩, fun x hx1 hx2 hin => hin.2 d hd hbd ⟨by omega, by omega⟩⟩
    · cases q with
      | none => trivial
      | some c => have hb' : d ≠ c ∧ c.f0 ≤ d.f0 ∧ d.f1 ≤ c.f1 := hbd
                  have := h.ok d hd
                  exact ⟨by omega, hb'.2.2⟩
    · have n1 := h.nc d hd e he
      have n2 := h.nc e he d hd
      have e5 := ha.2 e he hbe
      have hde := h.ok d hd
      have hee := h.ok e he
      by_cases e6 : e.f0 = a
      · have := h2 e he e6 ((cand_iff h he e6 hlo).2 hbe).1 ((cand_iff h he e6 hlo).2 hbe).2
        omega
      · omega
/-- No chord leads on: the next point of the circle is the region's. -/
theorem stride (h : NC n l) (hq : ∀ d, q = some d → d ∈ l) {a : Int} (h0 : 0 ≤ a) (ha : InF l q a) (hlt : a < hiOf n q) (hg : ¬ nextOf (hiOf n q) q a l a > a) :
    InF l q (a + 1) ∧ ∀ d ∈ l, below_ d q → d.f0 ≠ a := by
  obtain ⟨h1, h2⟩ := nextOf_spec (hiOf n q) q a l a
  have hlo := lo_of_in h hq ha h0
  have hno : ∀ d ∈ l, below_ d q → d.f0 ≠ a := by
    intro d hd hbd e1
    have := h2 d hd e1 ((cand_iff h hd e1 hlo).2 hbd).1 ((cand_iff h hd e1 hlo).2 hbd).2
    have := h.ok d hd
    omega
  refine ⟨⟨?_, fun d hd hbd hx => ?_⟩, hno⟩
  · cases q with
    | none => trivial
    | some c => have : c.f0 ≤ a := hlo
                have : a < c.f1 := hlt
                exact ⟨by omega, by omega⟩
  · have := ha.2 d hd hbd
    have := hno d hd hbd
    omega
theorem fw_all (h : NC n l) (hq : ∀ d, q = some d → d ∈ l) : ∀ (m : Nat) (a : Int), 0 ≤ a → InF l q a → (hiOf n q - a).toNat ≤ m →
    (fw l (hiOf n q) q m a).1 = (ints (a + 1) (hiOf n q - a).toNat).filter (fun x => decide (InF l q x)) ∧
    (∀ ch, ch ∈ (fw l (hiOf n q) q m a).2.1 ↔ ch ∈ l ∧ below_ ch q ∧ InF l q ch.f0 ∧ InF l q ch.f1 ∧ a ≤ ch.f0) ∧
    (∀ i, i ∈ (fw l (hiOf n q) q m a).2.2 ↔ a ≤ i ∧ i < hiOf n q ∧ InF l q i ∧ ∀ d ∈ l, below_ d q → d.f0 ≠ i) := by
  have noCh : ∀ (a : Int), 0 ≤ a → InF l q a → ¬ a < hiOf n q → ∀ ch : Ch, ¬ (ch ∈ l ∧ below_ ch q ∧ InF l q ch.f0 ∧ InF l q ch.f1 ∧ a ≤ ch.f0) := by
    rintro a h0 ha hlt ch ⟨h1, h2, h3, h4, h5⟩
    have := h.ok ch h1
    have := ((cand_iff h h1 rfl (lo_of_in h hq h3 (by omega))).2 h2).1
    omega
  intro m
  induction m with
  | zero =>
    intro a h0 ha hm
    have e0 : (hiOf n q - a).toNat = 0 := by omega
    rw [e0]
    refine ⟨rfl, fun ch => ⟨fun hc => by simp [fw] at hc, fun hc => absurd hc (noCh a h0 ha (by omega) ch)⟩, fun i => ⟨fun hc => by simp [fw] at hc, fun hc => by omega⟩⟩
  | succ m ih =>
    intro a h0 ha hm
    by_cases hlt : a < hiOf n q
    · simp only [fw]
      rw [if_pos hlt]
      by_cases hg : nextOf (hiOf n q) q a l a > a
      · rw [if_pos hg]
        obtain ⟨j1, j2, j3, j4⟩ := jump h hq h0 ha hg
        have hle := nextOf_le (hiOf n q) q a l a (Int.le_of_lt hlt)
        generalize nextOf (hiOf n q) q a l a = nx at hg j1 j2 j3 j4 hle ⊢
        obtain ⟨i1, i2, i3⟩ := ih nx (by omega) j3 (by omega)
        refine ⟨?_, fun ch => ?_, fun i => ?_⟩
        · show nx :: (fw l (hiOf n q) q m nx).1 = _
          rw [i1, show (hiOf n q - a).toNat = (nx - a - 1).toNat + ((hiOf n q - nx).toNat + 1) by omega, ints_append, List.filter_append, show a + 1 + ((nx - a - 1).toNat : Int) = nx by omega, ints_succ, List.filter_cons, if_pos (by simpa using j3)]
          have hnil : (ints (a + 1) (nx - a - 1).toNat).filter (fun x => decide (InF l q x)) = [] := List.filter_eq_nil_iff.2 (fun x hx => by
            have := mem_ints.1 hx
            simpa using j4 x (by omega) (by omega))
          rw [hnil, List.nil_append]
        · show ch ∈ (⟨a, nx⟩ : Ch) :: (fw l (hiOf n q) q m nx).2.1 ↔ _
          rw [List.mem_cons, i2]
          constructor
          · rintro (rfl | ⟨h1, h2, h3, h4, h5⟩)
            · exact ⟨j1, j2, ha, j3, Int.le_refl _⟩
            · exact ⟨h1, h2, h3, h4, by omega⟩
          · rintro ⟨h1, h2, h3, h4, h5⟩
            have hok := h.ok ch h1
            by_cases e : ch.f0 = a
            · left
              have e1 : ¬ ch.f1 < nx := fun hl => j4 ch.f1 (by omega) hl h4
              have e2 : ¬ nx < ch.f1 := fun hl => j3.2 ch h1 h2 ⟨by omega, hl⟩
              exact ch_ext e (by show ch.f1 = nx; omega)
            · right
              have e1 : ¬ ch.f0 < nx := fun hl => j4 ch.f0 (by omega) hl h3
              exact ⟨h1, h2, h3, h4, by omega⟩
        · show i ∈ (fw l (hiOf n q) q m nx).2.2 ↔ _
          rw [i3]
          constructor
          · rintro ⟨h1, h2, h3, h4⟩; exact ⟨by omega, h2, h3, h4⟩
          · rintro ⟨h1, h2, h3, h4⟩
            have e0 : i ≠ a := fun e => h4 ⟨a, nx⟩ j1 j2 e.symm
            have e1 : ¬ i < nx := fun hl => j4 i (by omega) hl h3
            exact ⟨by omega, h2, h3, h4⟩
      · rw [if_neg hg]
        obtain ⟨j1, j2⟩ := stride h hq h0 ha hlt hg
        obtain ⟨i1, i2, i3⟩ := ih (a + 1) (by omega) j1 (by omega)
        refine ⟨?_, fun ch => ?_, fun i => ?_⟩
        · show (a + 1) :: (fw l (hiOf n q) q m (a + 1)).1 = _
          rw [i1, show (hiOf n q - a).toNat = (hiOf n q - (a + 1)).toNat + 1 by omega, ints_succ, List.filter_cons, if_pos (by simpa using j1)]
        · show ch ∈ (fw l (hiOf n q) q m (a + 1)).2.1 ↔ _
          rw [i2]
          constructor
          · rintro ⟨h1, h2, h3, h4, h5⟩; exact ⟨h1, h2, h3, h4, by omega⟩
          · rintro ⟨h1, h2, h3, h4, h5⟩
            have := j2 ch h1 h2
            exact ⟨h1, h2, h3, h4, by omega⟩
        · show i ∈ a :: (fw l (hiOf n q) q m (a + 1)).2.2 ↔ _
          rw [List.mem_cons, i3]
          constructor
          · rintro (rfl | ⟨h1, h2, h3, h4⟩)
            · exact ⟨Int.le_refl _, hlt, ha, j2⟩
            · exact ⟨by omega, h2, h3, h4⟩
          · rintro ⟨h1, h2, h3, h4⟩
            by_cases e : i = a
            · exact .inl e
            · exact .inr ⟨by omega, h2, h3, h4⟩
    · simp only [fw]
      rw [if_neg hlt]
      have e0 : (hiOf n q - a).toNat = 0 := by omega
      rw [e0]
      refine ⟨rfl, fun ch => ⟨fun hc => by simp at hc, fun hc => absurd hc (noCh a h0 ha hlt ch)⟩, fun i => ⟨fun hc => by simp at hc, fun hc => by omega⟩⟩
theorem lo_in (h : NC n l) (hn : 0 < n) (hq : ∀ d, q = some d → d ∈ l) : 0 ≤ loOf q ∧ loOf q ≤ hiOf n q ∧ hiOf n q < n ∧ InF l q (loOf q) ∧ InF l q (hiOf n q) := by
  cases q with
  | none => exact ⟨Int.le_refl _, by simp only [loOf, hiOf]; omega, by simp only [hiOf]; omega, ⟨trivial, fun d hd _ hx => by have := h.ok d hd; simp only [loOf] at hx; omega⟩, ⟨trivial, fun d hd _ hx => by have := h.ok d hd; simp only [hiOf] at hx; omega⟩⟩
  | some c =>
    have hc := h.ok c (hq c rfl)
    exact ⟨hc.1, by simp only [loOf, hiOf]; omega, by simp only [hiOf]; omega, ⟨⟨Int.le_refl _, by simp only [loOf]; omega⟩, fun d hd hb hx => by have := hb.2.1; simp only [loOf] at hx; omega⟩, ⟨⟨by simp only [hiOf]; omega, Int.le_refl _⟩, fun d hd hb hx => by have := hb.2.2; simp only [hiOf] at hx; omega⟩⟩
theorem face_eq (h : NC n l) (hn : 0 < n) (hq : ∀ d, q = some d → d ∈ l) : face n l q = loOf q :: (ints (loOf q + 1) (hiOf n q - loOf q).toNat).filter (fun x => decide (InF l q x)) := by
  obtain ⟨h0, h1, h2, h3, h4⟩ := lo_in h hn hq
  unfold face
  rw [show n.toNat = (loOf q).toNat + ((hiOf n q - loOf q).toNat + 1 + (n - 1 - hiOf n q).toNat) by omega, ints_append, ints_append, List.filter_append, List.filter_append, show (0 : Int) + ((loOf q).toNat : Int) = loOf q by omega, ints_succ, List.filter_cons, if_pos (by simpa using h3)]
  have hn1 : (ints 0 (loOf q).toNat).filter (fun x => decide (InF l q x)) = [] := List.filter_eq_nil_iff.2 (fun x hx => by
    have := mem_ints.1 hx
    simp only [decide_eq_true_iff]
    intro hin
    cases q with
    | none => simp only [loOf] at this; omega
    | some c => have := hin.1.1; simp only [loOf] at *; omega)
  have hn2 : (ints (loOf q + (((hiOf n q - loOf q).toNat + 1 : Nat) : Int)) (n - 1 - hiOf n q).toNat).filter (fun x => decide (InF l q x)) = [] := List.filter_eq_nil_iff.2 (fun x hx => by
    have := mem_ints.1 hx
    simp only [decide_eq_true_iff]
    intro hin
    cases q with
    | none => simp only [hiOf, loOf] at *; omega
    | some c => have := hin.1.2; simp only [hiOf, loOf] at *; omega)
  rw [hn1, hn2, List.nil_append, List.append_nil]
end
/-- The region at a place, as_ the program tells it. -/
def regOf (n : Int) (l : List Ch) : Option Ch → List Int × List Ch × List Int
  | none => regionOf l ⟨0, n - 1⟩ false
  | some c => regionOf l c true
section
variable {n : Int} {l : List Ch} {q : Option Ch}
theorem regOf_eq (n : Int) (l : List Ch) (q : Option Ch) : regOf n l q = (loOf q :: (fw l (hiOf n q) q (hiOf n q - loOf q).toNat (loOf q)).1, (match q with | none => [] | some c => [c]) ++ (fw l (hiOf n q) q (hiOf n q - loOf q).toNat (loOf q)).2.1, (match q with | none => [n - 1] | some _ => []) ++ (fw l (hiOf n q) q (hiOf n q - loOf q).toNat (loOf q)).2.2) := by
  cases q <;> rfl
theorem reg_points (h : NC n l) (hn : 0 < n) (hq : ∀ d, q = some d → d ∈ l) : (regOf n l q).1 = face n l q := by
  obtain ⟨h0, h1, h2, h3, h4⟩ := lo_in h hn hq
  rw [regOf_eq, face_eq h hn hq]
  show loOf q :: _ = _
  rw [(fw_all h hq _ (loOf q) h0 h3 (Nat.le_refl _)).1]
/-- A region has a third point, but for one that lies between a chord and an arc. -/
theorem third (h : NC n l) (hn : 3 ≤ n) {c : Ch} (hc : c ∈ l) (hw : c.f1 - c.f0 > 1) : ∃ x, c.f0 < x ∧ x < c.f1 ∧ InF l (some c) x := by
  have hq : ∀ d, some c = some d → d ∈ l := fun d e => Option.some.inj e ▸ hc
  obtain ⟨h0, h1, h2, h3, h4⟩ := lo_in (q := some c) h (by omega) hq
  by_cases hg : nextOf (hiOf n (some c)) (some c) (loOf (some c)) l (loOf (some c)) > loOf (some c)
  · obtain ⟨j1, j2, j3, j4⟩ := jump h hq h0 h3 hg
    refine ⟨_, hg, ?_, j3⟩
    have hle := nextOf_le (hiOf n (some c)) (some c) (loOf (some c)) l (loOf (some c)) h1
    have hne : ¬ nextOf (hiOf n (some c)) (some c) (loOf (some c)) l (loOf (some c)) = c.f1 := fun e => j2.1 (ch_ext rfl e)
    have : hiOf n (some c) = c.f1 := rfl
    omega
  · obtain ⟨j1, _⟩ := stride h hq h0 h3 (by simp only [loOf, hiOf]; omega) hg
    exact ⟨c.f0 + 1, by omega, by omega, j1⟩
end
/-! ### both orders -/
def lexLe (a b : List Int) : Bool := !lexLt b a
theorem lexLt_asymm : ∀ a b : List Int, lexLt a b = true → lexLt b a = false
  | [], [] => by simp [lexLt]
  | [], _ :: _ => by simp [lexLt]
  | _ :: _, [] => by simp [lexLt]
  | x :: a, y :: b => by
    simp only [lexLt]
    by_cases e : x = y
    · subst e; simpa using lexLt_asymm a b
    · rw [if_neg e, if_neg (fun h => e h.symm)]; simp; omega
theorem lexLt_total : ∀ a b : List Int, lexLt a b = false → lexLt b a = false → a = b
  | [], [] => fun _ _ => rfl
  | [], _ :: _ => by simp [lexLt]
  | _ :: _, [] => by simp [lexLt]
  | x :: a, y :: b => by
    simp only [lexLt]
    by_cases e : x = y
    · subst e
      simp only [if_true]
      intro h1 h2; rw [lexLt_total a b h1 h2]
    · rw [if_neg e, if_neg (fun h => e h.symm)]; simp; omega
theorem lexLt_trans : ∀ a b c : List Int, lexLt a b = true → lexLt b c = true → lexLt a c = true
  | [], [], _ => by simp [lexLt]
  | [], _ :: _, [] => by simp [lexLt]
  | [], _ :: _, _ :: _ => by simp [lexLt]
  | _ :: _, [], _ => by simp [lexLt]
  | _ :: _, _ :: _, [] => by simp [lexLt]
  | x :: a, y :: b, z :: c => by
    simp only [lexLt]
    by_cases e1 : x = y
    · subst e1
      by_cases e2 : x = z
      · subst e2; simpa using lexLt_trans a b c
      · simp only [if_true, if_neg e2]
        intro _ h2; exact h2
    · by_cases e2 : y = z
      · subst e2
        simp only [if_true, if_neg e1]
        intro h1 _; exact h1
      · rw [if_neg e1, if_neg e2]
        simp only [decide_eq_true_iff]
        intro h1 h2
        rw [if_neg (by omega)]
        simp; omega
theorem lexLe_trans (a b c : List Int) (h1 : lexLe a b = true) (h2 : lexLe b c = true) : lexLe a c = true := by
  unfold lexLe at *
  simp only [Bool.not_eq_true'] at *
  cases hca : lexLt c a with
  | false => rfl
  | true =>
    cases hab : lexLt a b with
    | true => rw [lexLt_trans c a b hca hab] at h2; cases h2
    | false => rw [lexLt_total a b hab h1, h2] at hca; cases hca
theorem lexLe_total (a b : List Int) : (lexLe a b || lexLe b a) = true := by
  unfold lexLe
  cases h : lexLt b a with
  | false => rfl
  | true => rw [lexLt_asymm b a h]; rfl
theorem lexLe_antisymm (a b : List Int) (h1 : lexLe a b = true) (h2 : lexLe b a = true) : a = b := by
  unfold lexLe at *
  simp only [Bool.not_eq_true'] at *
  exact lexLt_total a b h2 h1
theorem rePos_le (r : List Int) (out : List (List Int)) : rePos r out ≤ out.length := by unfold rePos; omega
theorem rePut_perm (out : List (List Int)) (r : List Int) : (rePut out r).Perm (r :: out) := by
  unfold rePut
  rw [show out.take (rePos r out) ++ [r] ++ out.drop (rePos r out) = out.take (rePos r out) ++ r :: out.drop (rePos r out) by simp]
  refine List.perm_middle.trans ?_
  rw [List.take_append_drop]
theorem rePut_sorted {out : List (List Int)} (h : out.Pairwise fun a b => lexLe a b = true) (r : List Int) : (rePut out r).Pairwise fun a b => lexLe a b = true := by
  -- what stands behind the place is greater, what stands ahead of it is not
  have h1 : out = out.take (rePos r out) ++ out.drop (rePos r out) := (List.take_append_drop _ _).symm
  have hdrop : ∀ x ∈ out.drop (rePos r out), lexLt r x = true := by
    intro x hx
    have : out.drop (rePos r out) = (out.reverse.takeWhile (fun q => lexLt r q)).reverse := by
      have h2 := List.takeWhile_append_dropWhile (p := fun q => lexLt r q) (l := out.reverse)
      have h3 : out = (out.reverse.dropWhile (fun q => lexLt r q)).reverse ++ (out.reverse.takeWhile (fun q => lexLt r q)).reverse := by
        rw [← List.reverse_append, h2, List.reverse_reverse]
      have h4 : (out.reverse.dropWhile (fun q => lexLt r q)).reverse.length = rePos r out := by
        have := congrArg List.length h3
        rw [List.length_append, List.length_reverse, List.length_reverse] at this
        rw [List.length_reverse]; unfold rePos; omega
      rw [← h4]
      generalize (out.reverse.dropWhile (fun q => lexLt r q)).reverse = X at h3 ⊢
      generalize (out.reverse.takeWhile (fun q => lexLt r q)).reverse = Y at h3 ⊢
      rw [h3, List.drop_append_of_le_length (Nat.le_refl _), List.drop_length, List.nil_append]
    rw [this, List.mem_reverse] at hx
    exact List.all_eq_true.1 (List.all_takeWhile (p := fun q => lexLt r q) (l := out.reverse)) x hx
  have htake : ∀ x ∈ out.take (rePos r out), lexLe x r = true := by
    intro x hx
    rcases Nat.eq_zero_or_pos (rePos r out) with h0 | h0
    · rw [h0] at hx; simp at hx
    · -- the last one ahead is not greater
      have hpl := rePos_le r out
      obtain ⟨s, hs⟩ : ∃ s, rePos r out = s + 1 := ⟨rePos r out - 1, by omega⟩
      have hsl : s < out.length := by omega
      have hlast : lexLt r out[s] = false := by
        have h2 := List.takeWhile_append_dropWhile (p := fun q => lexLt r q) (l := out.reverse)
        have h4 : (out.reverse.dropWhile (fun q => lexLt r q)).length = s + 1 := by
          have := congrArg List.length h2
          rw [List.length_append, List.length_reverse] at this
          rw [← hs]; unfold rePos; omega
        have h5 : out.reverse.dropWhile (fun q => lexLt r q) ≠ [] := fun e => by rw [e] at h4; simp at h4
        have h6 := List.head_dropWhile_not (fun q => lexLt r q) h5
        have h7 : (out.reverse.dropWhile (fun q => lexLt r q)).head h5 = out[s] := by
          have h8 : out = (out.reverse.dropWhile (fun q => lexLt r q)).reverse ++ (out.reverse.takeWhile (fun q => lexLt r q)).reverse := by
            rw [← List.reverse_append, h2, List.reverse_reverse]
          have h9 : out[s]? = (out.reverse.dropWhile (fun q => lexLt r q))[0]? := by
            generalize hX : out.reverse.dropWhile (fun q => lexLt r q) = X at h8 h4 ⊢
            generalize (out.reverse.takeWhile (fun q => lexLt r q)).reverse = Y at h8
            rw [h8, List.getElem?_append_left (by rw [List.length_reverse]; omega), List.getElem?_reverse (by omega)]
            congr 1; omega
          rw [List.getElem?_eq_getElem hsl, ← List.head?_eq_getElem?, List.head?_eq_some_head h5] at h9
          exact (Option.some.inj h9).symm
        rw [h7] at h6; simpa using h6
      rw [hs, List.take_succ_eq_append_getElem hsl] at hx
      have hle : lexLe out[s] r = true := by unfold lexLe; rw [hlast]; rfl
      rcases List.mem_append.1 hx with hx | hx
      · obtain ⟨j, hj, rfl⟩ := List.mem_iff_getElem.1 hx
        rw [List.length_take] at hj
        rw [List.getElem_take]
        exact lexLe_trans _ _ _ (List.pairwise_iff_getElem.1 h j s (by omega) hsl (by omega)) hle
      · rw [List.mem_singleton.1 hx]; exact hle
  unfold rePut
  rw [List.append_assoc, List.pairwise_append]
  refine ⟨h.sublist (List.take_sublist _ _), List.pairwise_cons.2 ⟨fun x hx => by unfold lexLe; rw [lexLt_asymm _ _ (hdrop x hx)]; rfl, h.sublist (List.drop_sublist _ _)⟩, fun x hx y hy => ?_⟩
  rcases List.mem_cons.1 hy with rfl | hy
  · exact htake x hx
  · exact lexLe_trans _ _ _ (htake x hx) (by unfold lexLe; rw [lexLt_asymm _ _ (hdrop y hy)]; rfl)
theorem rePuts {rs : List (List Int)} : ∀ {out : List (List Int)}, (out.Pairwise fun a b => lexLe a b = true) → (rs.foldl rePut out).Perm (rs ++ out) ∧ (rs.foldl rePut out).Pairwise fun a b => lexLe a b = true := by
  induction rs with
  | nil => exact fun h => ⟨List.Perm.refl _, h⟩
  | cons r rs ih =>
    intro out h
    obtain ⟨h1, h2⟩ := ih (rePut_sorted h r)
    refine ⟨h1.trans ?_, h2⟩
    refine (List.Perm.append_left rs (rePut_perm out r)).trans ?_
    rw [List.cons_append]
    exact List.perm_middle
/-- The regions of a plane set, in order: both sides'. -/
def faces (n : Int) (l : List Ch) : List (List Int) := ((ids l).map (face n l)).mergeSort lexLe
theorem reRegions_eq {n : Int} {l : List Ch} (h : NC n l) (hnd : l.Nodup) : reRegions n.toNat l = faces n l := by
  unfold reRegions faces
  rw [← ints_zero]
  obtain ⟨h1, h2⟩ := rePuts (rs := l.foldl reStep [ints 0 n.toNat]) (out := []) .nil
  rw [List.append_nil] at h1
  refine List.Perm.eq_of_pairwise (le := fun a b => lexLe a b = true) (fun a b _ _ => lexLe_antisymm a b) h2 (List.pairwise_mergeSort lexLe_trans lexLe_total _) ?_
  exact (h1.trans (steps_perm h hnd)).trans (List.mergeSort_perm _ _).symm
theorem chk_sorted {n : Int} : ∀ {l : List Ch} {p : Option Ch}, chk n p l = true → (∀ c ∈ l, ∀ d, p = some d → chLt d c = true) ∧ l.Pairwise fun c d => chLt c d = true
  | [], _, _ => ⟨fun c hc => by simp at hc, .nil⟩
  | c :: l, p, h => by
    simp only [chk, Bool.and_eq_true] at h
    obtain ⟨h1, h2⟩ := chk_sorted h.2
    have tr : ∀ a b c : Ch, chLt a b = true → chLt b c = true → chLt a c = true := by
      intro a b c; unfold chLt; simp only [decide_eq_true_iff]; omega
    refine ⟨fun d hd e he => ?_, List.pairwise_cons.2 ⟨fun d hd => h1 d hd c rfl, h2⟩⟩
    subst he
    have h3 : chLt e c = true := h.1.2
    rcases List.mem_cons.1 hd with rfl | hd
    · exact h3
    · exact tr e c d h3 (h1 d hd c rfl)
theorem good_sorted {n : Int} {l : List Ch} (h : goodSet n l = true) : l.Pairwise fun c d => chLt c d = true := by
  unfold goodSet at h; simp only [Bool.and_eq_true] at h; exact (chk_sorted h.1.2).2
theorem chLt_irrefl (c : Ch) : chLt c c = false := by unfold chLt; simp
theorem good_nodup {n : Int} {l : List Ch} (h : goodSet n l = true) : l.Nodup := by
  rw [List.nodup_iff_pairwise_ne]
  exact (good_sorted h).imp (fun {a b} hab e => by subst e; rw [chLt_irrefl] at hab; cases hab)
theorem cnt_zero : ∀ {l : List Ch}, cntPairs l = 0 → l.Pairwise fun c d => crossP c d = false
  | [], _ => .nil
  | c :: l, h => by
    simp only [cntPairs] at h
    refine List.pairwise_cons.2 ⟨fun d hd => ?_, cnt_zero (by omega)⟩
    have := List.countP_eq_zero.1 (show l.countP (crossP c) = 0 by omega) d hd
    simpa using this
theorem plane_nc {n : Int} {l : List Ch} (h : plane n l = true) : NC n l := by
  unfold plane at h
  rw [Bool.and_eq_true, decide_eq_true_iff] at h
  refine ⟨good_ok h.1, fun c hc d hd hx => ?_⟩
  have h1 := cnt_zero h.2
  have h2 : crossP c d = true := by unfold crossP; rw [decide_eq_true_iff]; exact .inl hx
  obtain ⟨i, hi, rfl⟩ := List.mem_iff_getElem.1 hc
  obtain ⟨j, hj, rfl⟩ := List.mem_iff_getElem.1 hd
  rcases Nat.lt_trichotomy i j with h3 | h3 | h3
  · rw [List.pairwise_iff_getElem.1 h1 i j hi hj h3] at h2; cases h2
  · subst h3; omega
  · rw [crossP_comm, List.pairwise_iff_getElem.1 h1 j i hj hi h3] at h2; cases h2
theorem plane_good {n : Int} {l : List Ch} (h : plane n l = true) : goodSet n l = true := by unfold plane at h; rw [Bool.and_eq_true] at h; exact h.1
end Go.Proofs.Yteeghncofacmhaa.Q
end
section
/-
  DERIVED: THE SHELF's CONTRACTS AT THIS DUMP, IN PLAIN WORDS (tools/lay-plain.mjs out of 'YteeghncofacmhaaShelfX.lean', which tools/lay-shelf.mjs wrote): THE SAME DECLARATIONS UNDER THE SAME NAMES: 'import', 'namespace', 'open', 'def', 'theorem' AND NOTHING ELSE: no command of the shelf's: FOR A HAND-IN. Each laying: the table of numbers ('.._ren') and one theorem, a field a fact of the dump's own or the kernel's comparison; each contract: ONE APPLICATION.
-/
namespace Go.Proofs
open Go.Shelf
def Try.lSortReg_ren : Go.Shelf.Ren := ⟨fun | 6 => 105 | 15 => 135 | 14 => 134 | 28 => 149 | 29 => 150 | 20 => 141 | 21 => 142 | 22 => 143 | 23 => 144 | 24 => 145 | 25 => 146 | 26 => 147 | 27 => 148 | 46 => 159 | 47 => 160 | 48 => 161 | 49 => 162 | 50 => 163 | 57 => 167 | n => n, fun | 22 => 67 | 24 => 71 | 25 => 108 | 3 => 3 | 39 => 121 | 0 => 0 | 53 => 134 | 55 => 88 | 4 => 4 | 46 => 128 | 45 => 127 | 50 => 34 | 5 => 5 | 9 => 9 | 66 => 141 | 70 => 145 | 76 => 149 | 77 => 150 | n => n, fun | n => n⟩
def Try.lSortCh_ren : Go.Shelf.Ren := ⟨fun | 6 => 117 | 15 => 135 | 14 => 138 | 28 => 149 | 29 => 150 | 20 => 151 | 21 => 152 | 22 => 153 | 23 => 154 | 24 => 155 | 25 => 156 | 26 => 157 | 27 => 158 | 46 => 164 | 47 => 160 | 48 => 161 | 49 => 165 | 50 => 166 | 57 => 168 | n => n, fun | 22 => 27 | 24 => 64 | 25 => 99 | 3 => 3 | 39 => 121 | 0 => 0 | 53 => 134 | 55 => 88 | 4 => 4 | 46 => 128 | 45 => 127 | 50 => 34 | 5 => 5 | 9 => 9 | 66 => 141 | 70 => 145 | 76 => 149 | 77 => 150 | n => n, fun | n => n⟩
theorem Try.lSortCh : Go.Proofs.SlLaysF0.n6 Try.prog Try.lSortCh_ren := {
  mixed := by kernel_rfl
  f6 := ⟨Try.f117.name, by decide, Try.func117.trans (congrArg some (by kernel_rfl))⟩
  f14 := ⟨Try.f138.name, by decide, Try.func138.trans (congrArg some (by kernel_rfl))⟩
  f15 := Try.func135.trans (congrArg some (by kernel_rfl))
  f20 := ⟨Try.f151.name, by decide, Try.func151.trans (congrArg some (by kernel_rfl))⟩
  f21 := ⟨Try.f152.name, by decide, Try.func152.trans (congrArg some (by kernel_rfl))⟩
  f22 := ⟨Try.f153.name, by decide, Try.func153.trans (congrArg some (by kernel_rfl))⟩
  f23 := ⟨Try.f154.name, by decide, Try.func154.trans (congrArg some (by kernel_rfl))⟩
  f24 := ⟨Try.f155.name, by decide, Try.func155.trans (congrArg some (by kernel_rfl))⟩
  f25 := ⟨Try.f156.name, by decide, Try.func156.trans (congrArg some (by kernel_rfl))⟩
  f26 := ⟨Try.f157.name, by decide, Try.func157.trans (congrArg some (by kernel_rfl))⟩
  f27 := ⟨Try.f158.name, by decide, Try.func158.trans (congrArg some (by kernel_rfl))⟩
  f28 := Try.func149.trans (congrArg some (by kernel_rfl))
  f29 := Try.func150.trans (congrArg some (by kernel_rfl))
  f46 := ⟨Try.f164.name, by decide, Try.func164.trans (congrArg some (by kernel_rfl))⟩
  f47 := Try.func160.trans (congrArg some (by kernel_rfl))
  f48 := Try.func161.trans (congrArg some (by kernel_rfl))
  f49 := ⟨Try.f165.name, by decide, Try.func165.trans (congrArg some (by kernel_rfl))⟩
  f50 := ⟨Try.f166.name, by decide, Try.func166.trans (congrArg some (by kernel_rfl))⟩
  f57 := ⟨Try.f168.name, by decide, Try.func168.trans (congrArg some (by kernel_rfl))⟩
  t0 := Try.underlying0
  a0 := Try.isAgg0
  z0 := Try.sizeOf0
  v0 := Try.zeroValue0
  t3 := Try.underlying3
  a3 := Try.isAgg3
  z3 := Try.sizeOf3
  v3 := Try.zeroValue3
  t4 := Try.underlying4
  a4 := Try.isAgg4
  z4 := Try.sizeOf4
  v4 := Try.zeroValue4
  t5 := Try.underlying5
  a5 := Try.isAgg5
  z5 := Try.sizeOf5
  v5 := Try.zeroValue5
  t9 := Try.underlying9
  a9 := Try.isAgg9
  z9 := Try.sizeOf9
  v9 := Try.zeroValue9
  t22 := Try.underlying27
  a22 := Try.isAgg27
  z22 := Try.sizeOf27
  v22 := Try.zeroValue27
  t25 := Try.underlying99
  a25 := Try.isAgg99
  z25 := Try.sizeOf99
  v25 := Try.zeroValue99
  t39 := Try.underlying121
  a39 := Try.isAgg121
  z39 := Try.sizeOf121
  v39 := Try.zeroValue121
  t45 := Try.underlying127
  a45 := Try.isAgg127
  z45 := Try.sizeOf127
  v45 := Try.zeroValue127
  t46 := Try.underlying128
  a46 := Try.isAgg128
  z46 := Try.sizeOf128
  v46 := Try.zeroValue128
  t50 := Try.underlying34
  a50 := Try.isAgg34
  z50 := Try.sizeOf34
  v50 := Try.zeroValue34
  t53 := Try.underlying134
  a53 := Try.isAgg134
  z53 := Try.sizeOf134
  v53 := Try.zeroValue134
  t55 := Try.underlying88
  a55 := Try.isAgg88
  z55 := Try.sizeOf88
  v55 := Try.zeroValue88
  t66 := Try.underlying141
  a66 := Try.isAgg141
  z66 := Try.sizeOf141
  v66 := Try.zeroValue141
  t70 := Try.underlying145
  a70 := Try.isAgg145
  z70 := Try.sizeOf145
  v70 := Try.zeroValue145
  t76 := Try.underlying149
  a76 := Try.isAgg149
  z76 := Try.sizeOf149
  v76 := Try.zeroValue149
  t77 := Try.underlying150
  a77 := Try.isAgg150
  z77 := Try.sizeOf150
  v77 := Try.zeroValue150 }
def Try.lAnyCh_ren : Go.Shelf.Ren := ⟨fun | 8 => 114 | 6 => 137 | n => n, fun | 22 => 27 | 23 => 64 | 25 => 110 | 4 => 4 | 3 => 3 | 0 => 0 | n => n, fun | n => n⟩
theorem Try.lAnyCh : Go.Proofs.SlLaysH0.n8 Try.prog Try.lAnyCh_ren := {
  mixed := by kernel_rfl
  f6 := ⟨Try.f137.name, by decide, Try.func137.trans (congrArg some (by kernel_rfl))⟩
  f8 := ⟨Try.f114.name, by decide, Try.func114.trans (congrArg some (by kernel_rfl))⟩
  t0 := Try.underlying0
  a0 := Try.isAgg0
  z0 := Try.sizeOf0
  v0 := Try.zeroValue0
  t3 := Try.underlying3
  a3 := Try.isAgg3
  z3 := Try.sizeOf3
  v3 := Try.zeroValue3
  t4 := Try.underlying4
  a4 := Try.isAgg4
  z4 := Try.sizeOf4
  v4 := Try.zeroValue4
  t22 := Try.underlying27
  a22 := Try.isAgg27
  z22 := Try.sizeOf27
  v22 := Try.zeroValue27
  t25 := Try.underlying110
  a25 := Try.isAgg110
  z25 := Try.sizeOf110
  v25 := Try.zeroValue110 }
def Try.lCloneCh_ren : Go.Shelf.Ren := ⟨fun | 41 => 78 | n => n, fun | 22 => 27 | 23 => 64 | 4 => 4 | n => n, fun | n => n⟩
theorem Try.lCloneCh : Go.Proofs.SlLaysE0.n41 Try.prog Try.lCloneCh_ren := {
  mixed := by kernel_rfl
  f41 := ⟨Try.f78.name, by decide, Try.func78.trans (congrArg some (by kernel_rfl))⟩
  t4 := Try.underlying4
  a4 := Try.isAgg4
  z4 := Try.sizeOf4
  v4 := Try.zeroValue4
  t22 := Try.underlying27
  a22 := Try.isAgg27
  z22 := Try.sizeOf27
  v22 := Try.zeroValue27 }
end Go.Proofs
end
section
/- A row of structs that the call itself has made, told by its elements: the cells, the blocks (an interval) and the value of each; and what a sort makes of such a row. No program is walked here. -/
namespace Go.Proofs.Yteeghncofacmhaa.Q
open Go.RowKit Go.Proofs.YteeghncofacmhaaW.PrintWords Go.Proofs.YteeghncofacmhaaW.PrintLast Go.Proofs.YteeghncofacmhaaW.PrintMore Go.Sort
set_option linter.unusedVariables false
set_option linter.unusedSimpArgs false
structure RG (α : Type) where
  v : List Value
  lo : Nat
  hi : Nat
  x : α
def RgP {α : Type} (d : Kd α) (W : World) (B : Nat) (ps : List (RG α)) : Prop :=
  (∀ p ∈ ps, B ≤ p.lo ∧ p.hi ≤ W.heap.size ∧ d.M W B (fun k => p.lo ≤ k ∧ k < p.hi) p.x p.v) ∧ ps.Pairwise (fun p q => p.hi ≤ q.lo ∨ q.hi ≤ p.lo)
def RgO {α : Type} (sz e : Nat) (W : World) (B : Nat) (v : Value) (ps : List (RG α)) : Prop := (Kd.raw sz).R e W B (fun _ => True) v (ps.map RG.v)
section
variable {α : Type} {d : Kd α} {W W1 : World} {B sz e : Nat} {v : Value} {ps qs : List (RG α)}
theorem RgO.typed (h : RgO sz e W B v ps) (k : Nat) (hk : v.ownBlock = some k) : ∃ cells, W.heap[k]? = some (.cells cells e (0, 0)) := by
  obtain ⟨_, inner, ho, _⟩ := h
  exact own_typed ho k hk
/-- The blocks inside are not the row's own. -/
theorem RgP.inner (h : RgP d W B ps) (hO : RgO sz e W B v qs) (he : ∀ q ∈ d.E, q ≠ e) {p : RG α} (hp : p ∈ ps) : d.M W B (fun k => (p.lo ≤ k ∧ k < p.hi) ∧ some k ≠ v.ownBlock) p.x p.v := by
  refine d.M_mono (fun k hk => ⟨hk.1, fun hv => ?_⟩) (d.M_bound (h.1 p hp).2.2)
  obtain ⟨_, _, _, q, hq, cells, hc⟩ := hk
  obtain ⟨cells', hc'⟩ := hO.typed k hv.symm
  rw [hc] at hc'
  injection hc' with hc'
  injection hc' with _ hc'
  exact he q hq hc'
theorem RgO.slice (h : RgO sz e W B v ps) : ∃ A c, v = .slice A ps.length c ∧ ps.length ≤ c := by
  obtain ⟨A, c, he, hl, _⟩ := Kd.R_reads h
  rw [List.length_map] at he hl
  exact ⟨A, c, he, hl⟩
end
/-! ### what a sort makes of it -/
section
variable {β : Type} [Inhabited β] {α : Type}
theorem sortK_heap (enc : β → List Value) (k : Nat) (W : World) (blk off m : Nat) (dk : Array β) (os : Array Obj) : (sortWorldK enc k W blk off m dk os).heap = W.heap.modify blk (onCells (putCells id off (flatK enc k dk))) ++ os := rfl
theorem sortK_other (enc : β → List Value) (k : Nat) (W : World) (blk off m : Nat) (dk : Array β) (os : Array Obj) (j : Nat) (hj : j < W.heap.size) (hne : j ≠ blk) : (sortWorldK enc k W blk off m dk os).heap[j]? = W.heap[j]? := by
  rw [sortK_heap, Array.getElem?_append]
  have : j < (W.heap.modify blk (onCells (putCells id off (flatK enc k dk)))).size := by simpa using hj
  rw [if_pos this, Array.getElem?_modify, if_neg (Ne.symm hne)]
theorem sortK_size (enc : β → List Value) (k : Nat) (W : World) (blk off m : Nat) (dk : Array β) (os : Array Obj) : W.heap.size ≤ (sortWorldK enc k W blk off m dk os).heap.size := by
  rw [sortK_heap]; simp
theorem sortK_below {w : World} {B : Nat} (enc : β → List Value) (k : Nat) (W : World) (blk off m : Nat) (dk : Array β) (os : Array Obj) (h : Below B w W) (hB : B ≤ w.heap.size) (hblk : B ≤ blk) : Below B w (sortWorldK enc k W blk off m dk os) :=
  ⟨h.os, h.tape, h.output, Nat.le_trans h.size (sortK_size ..), fun j hj => (sortK_other enc k W blk off m dk os j (Nat.lt_of_lt_of_le hj (Nat.le_trans hB h.size)) (by omega)).trans (h.block j hj)⟩
theorem sortK_row (enc : β → List Value) (k : Nat) (W : World) (blk m : Nat) (dk : Array β) (os : Array Obj) {cur : Array Value} {e : Nat} (h : W.heap[blk]? = some (.cells cur e (0, 0))) :
    (sortWorldK enc k W blk 0 m dk os).heap[blk]? = some (.cells (putCells id 0 (flatK enc k dk) cur) e (0, 0)) := by
  have hl : blk < W.heap.size := (Array.getElem?_eq_some_iff.1 h).1
  rw [sortK_heap, Array.getElem?_append]
  have : blk < (W.heap.modify blk (onCells (putCells id 0 (flatK enc k dk)))).size := by simpa using hl
  rw [if_pos this, Array.getElem?_modify, if_pos rfl, h]
  rfl
theorem flatK_chunk (enc : β → List Value) (k : Nat) (hk : ∀ x, (enc x).length = k) (h0 : 0 < k) (dk : Array β) (j : Nat) (hj : j < dk.size) : ((flatK enc k dk).toList.drop (j * k)).take k = enc dk[j] := by
  have hb : j * k + k ≤ dk.size * k := by
    have := Nat.mul_le_mul_right k (show j + 1 ≤ dk.size from hj); rwa [Nat.add_mul, Nat.one_mul] at this
  apply List.ext_getElem
  · rw [List.length_take, List.length_drop, Array.length_toList, size_flatK, hk]; omega
  · intro i h1 h2
    rw [hk] at h2
    have hlt : j * k + i < dk.size * k := by omega
    have h3 := get_flatK enc k dk (j * k + i) hlt
    have e1 : (j * k + i) / k = j := (blk_iff k j _ h0).1 ⟨by omega, by omega⟩
    have e2 : (j * k + i) % k = i := by rw [Nat.mod_eq_sub_div_mul, e1]; omega
    rw [e1, e2] at h3
    rw [List.getElem_take, List.getElem_drop, Array.getElem_toList]
    rw [getElem!_pos (flatK enc k dk) (j * k + i) (by rw [size_flatK]; exact hlt), getElem!_pos dk j hj] at h3
    rw [h3, getElem!_pos (enc dk[j]) i (by rw [hk]; exact h2)]
theorem putCells_take (F cur : Array Value) (hs : F.size ≤ cur.size) : (putCells id 0 F cur).toList.take F.size = F.toList := by
  apply List.ext_getElem
  · rw [List.length_take, Array.length_toList, Array.length_toList]; simp [putCells]; omega
  · intro i h1 h2
    rw [Array.length_toList] at h2
    rw [List.getElem_take, Array.getElem_toList, Array.getElem_toList]
    simp [putCells, h2]
theorem RgO.sort {W : World} {B blk cap sz e : Nat} {ps qs : List (RG α)} (enc : β → List Value) (hsz : 0 < sz) (hlen : ∀ x, (enc x).length = sz) (hone : ∀ x, ∀ u ∈ enc x, u.oneCell' = true)
    (h : RgO sz e W B (.slice (some ⟨blk, 0, none⟩) ps.length cap) ps) (dk : Array β) (hd : dk.size = ps.length) (hq : qs.map RG.v = dk.toList.map enc) (m : Nat) (os : Array Obj) :
    RgO sz e (sortWorldK enc sz W blk 0 m dk os) B (.slice (some ⟨blk, 0, none⟩) ps.length cap) qs := by
  obtain ⟨_, inner, ho, hr⟩ := h
  have hql : qs.length = ps.length := by
    have := congrArg List.length hq
    simpa [hd] using this
  rw [List.length_map] at ho
  obtain ⟨h1, h2⟩ := ho
  rcases h2 with ⟨h2, _⟩ | ⟨g, cap', cur, hv, hg, hh, hn, hm, hc, ht⟩
  · cases h2
  · injection hv with hv _ hv2
    injection hv with hv
    injection hv with hv
    subst hv
    subst hv2
    have hfs : (flatK enc sz dk).size = ps.length * sz := by rw [size_flatK, hd]
    have hfc : (flatK enc sz dk).size ≤ cur.size := by rw [hfs, hc]; exact Nat.mul_le_mul_right _ hn
    refine ⟨fun _ _ => trivial, (flatK enc sz dk).toList, ⟨?_, .inr ⟨blk, cap, _, by rw [List.length_map, hql], hg, sortK_row enc sz W blk m dk os hh, ?_, hm, ?_, ?_⟩⟩, ?_, ?_⟩
    · rw [Array.length_toList, hfs, List.length_map, hql]; rfl
    · rw [List.length_map, hql]; exact hn
    · rw [← hc]; simp [putCells]
    · rw [List.length_map, hql]
      have := putCells_take (flatK enc sz dk) cur hfc
      rw [hfs] at this
      exact this
    · rw [Array.length_toList, hfs, List.length_map, hql]; rfl
    · intro j p hj
      rw [hq, List.getElem?_map] at hj
      rcases Nat.lt_or_ge j dk.size with hlt | hge
      · rw [Array.getElem?_toList, Array.getElem?_eq_getElem hlt] at hj
        simp only [Option.map_some, Option.some.injEq] at hj
        subst hj
        have hch := flatK_chunk enc sz hlen hsz dk j hlt
        exact ⟨hch, (congrArg List.length hch).trans (hlen _), fun u hu => hone _ u (hch ▸ hu)⟩
      · rw [Array.getElem?_toList, Array.getElem?_eq_none hge] at hj; cases hj
theorem RgO.holds {W : World} {B blk cap sz e : Nat} {ps : List (RG α)} (enc : β → List Value) (hsz : 0 < sz) (hlen : ∀ x, (enc x).length = sz) (h : RgO sz e W B (.slice (some ⟨blk, 0, none⟩) ps.length cap) ps) (dk : Array β) (hq : ps.map RG.v = dk.toList.map enc) :
    HoldsK enc sz W blk 0 dk := by
  have hd : dk.size = ps.length := by
    have := congrArg List.length hq
    simpa using this.symm
  obtain ⟨_, inner, ho, hr⟩ := h
  rw [List.length_map] at ho
  obtain ⟨h1, h2⟩ := ho
  rcases h2 with ⟨h2, _⟩ | ⟨g, cap', cur, hv, hg, hh, hn, hm, hc, ht⟩
  · cases h2
  · injection hv with hv _ hv2
    injection hv with hv
    injection hv with hv
    subst hv
    subst hv2
    intro t ht2
    rw [size_flatK] at ht2
    have h0 := get_flatK enc sz dk t ht2
    have htj : t / sz < dk.size := Nat.div_lt_of_lt_mul (by rwa [Nat.mul_comm])
    have hdm : t / sz * sz + t % sz = t := by rw [Nat.mul_comm]; exact Nat.div_add_mod t sz
    have hml : t % sz < sz := Nat.mod_lt _ hsz
    have hj : (ps.map RG.v)[t / sz]? = some (enc dk[t / sz]) := by
      rw [hq, List.getElem?_map, Array.getElem?_toList, Array.getElem?_eq_getElem htj]; rfl
    obtain ⟨h3, _, _⟩ := hr.2 (t / sz) _ hj
    have h4 : (inner.drop (t / sz * sz)).take sz = enc dk[t / sz] := h3
    have h5 : inner[t]? = some (enc dk[t / sz])[t % sz]! := by
      rw [getElem!_pos (enc dk[t / sz]) (t % sz) (by rw [hlen]; exact hml), ← List.getElem?_eq_getElem, ← h4, List.getElem?_take, if_pos hml, List.getElem?_drop, hdm]
    refine ⟨?_, by simp [World.frozen?, hh]⟩
    rw [Nat.zero_add, blk_cell hh, id, h0, getElem!_pos dk (t / sz) htj, ← h5, ← ht, List.getElem?_take, if_pos (by rw [← hd]; exact ht2), Array.getElem?_toList]
end
end Go.Proofs.Yteeghncofacmhaa.Q
end
section
/- What impl.planeRegions computes, and its sort. -/
namespace Go.Proofs.Yteeghncofacmhaa.Q
open Go.RowKit Go.Proofs.YteeghncofacmhaaW.PrintWords Go.Proofs.YteeghncofacmhaaW.PrintLast Go.Proofs.YteeghncofacmhaaW.PrintMore Go.Sort
set_option linter.unusedVariables false
set_option linter.unusedSimpArgs false
def rg (t : List Int × List Ch × List Int) : S71 := ⟨t.1, t.2.1, t.2.2⟩
def regs (n : Int) (l : List Ch) : List S71 := ((ids l).map fun q => rg (regOf n l q)).mergeSort (fun x y => lexLe x.f0 y.f0)
def impl_planeRegions.f (a0 : Int) (l1 : List S64) : Option (List S71 × Bool) := if l1.length ≤ 4611686018427387904 then some (if plane a0 l1 = true then (regs a0 l1, true) else ([], false)) else none
end Go.Proofs.Yteeghncofacmhaa.Q
end
section
/- impl.planeRegions by hand: the machine computes it. -/
namespace Go.Proofs.Yteeghncofacmhaa.Q
open Go.RowKit Go.Proofs.YteeghncofacmhaaW.PrintWords Go.Proofs.YteeghncofacmhaaW.PrintLast Go.Proofs.YteeghncofacmhaaW.PrintMore Go.Sort
attribute [local go_sem] max2_int min2_int max_two min_two max_three min_three max_four min_four
set_option linter.unusedVariables false
set_option linter.unusedSimpArgs false
end Go.Proofs.Yteeghncofacmhaa.Q
end
section
namespace Go.Proofs.Yteeghncofacmhaa.Q
open Go.RowKit Go.Proofs.YteeghncofacmhaaW.PrintWords Go.Proofs.YteeghncofacmhaaW.PrintLast Go.Proofs.YteeghncofacmhaaW.PrintMore
attribute [local go_sem] max2_int min2_int max_two min_two max_three min_three max_four min_four   -- for this text's walks alone
set_option linter.unusedVariables false
set_option linter.unusedSimpArgs false
/-! ### slices_Index_int_int: function 109 -/
def slices_Index_int_int.l0 : Nat → List Int → Int → Int → Int → Option (Int)
  | 0, _, _, _, _ => none
  | k + 1, x0, x1, x7, x8 => if x8 < x7 then (if 0 ≤ x8 then (if x8 < (x0.length : Int) then (if x1 = (rd x0 x8) then (some x8) else (slices_Index_int_int.l0 k x0 x1 x7 (wrap64 (x8 + 1)))) else (none)) else (none)) else (some (-1))
def slices_Index_int_int.f (k : Nat) (l0 : List Int) (a1 : Int) : Option (Int) := slices_Index_int_int.l0 k l0 a1 (l0.length : Int) 0
end Go.Proofs.Yteeghncofacmhaa.Q
end
section
namespace Go.Proofs.Yteeghncofacmhaa.Q
open Go.RowKit Go.Proofs.YteeghncofacmhaaW.PrintWords Go.Proofs.YteeghncofacmhaaW.PrintLast Go.Proofs.YteeghncofacmhaaW.PrintMore
attribute [local go_sem] max2_int min2_int max_two min_two max_three min_three max_four min_four   -- for this text's walks alone
set_option linter.unusedVariables false
set_option linter.unusedSimpArgs false
/-! ### slices_Contains_int_int: function 66 -/
def slices_Contains_int_int.f (k : Nat) (l0 : List Int) (a1 : Int) : Option (Bool) := (slices_Index_int_int.f k l0 a1).bind fun t101 => (some (decide (t101 ≥ 0)))
end Go.Proofs.Yteeghncofacmhaa.Q
end
section
/- impl.RegionOfArc by hand. -/
namespace Go.Proofs.Yteeghncofacmhaa.Q
open Go.RowKit Go.Proofs.YteeghncofacmhaaW.PrintWords Go.Proofs.YteeghncofacmhaaW.PrintLast Go.Proofs.YteeghncofacmhaaW.PrintMore
attribute [local go_sem] max2_int min2_int max_two min_two max_three min_three max_four min_four
set_option linter.unusedVariables false
set_option linter.unusedSimpArgs false
def idxOf (p : S71 → Bool) (xs : List S71) : Int := match xs.findIdx? p with | some k => (k : Int) | none => -1
def arcOf (n : Int) (l : List Ch) (i : Int) : Int := idxOf (fun r => r.f2.contains i) (regs n l)
def impl_RegionOfArc.f (a0 : Int) (l1 : List S64) (a2 : Int) : Option (Int × Bool) := if l1.length ≤ 4611686018427387904 then some (if plane a0 l1 = true ∧ 0 ≤ a2 ∧ a2 ≤ a0 - 1 then (arcOf a0 l1 a2, true) else (0, false)) else none
theorem regs_mem {n : Int} {l : List Ch} {x : S71} (h : x ∈ regs n l) : ∃ q, q ∈ ids l ∧ x = rg (regOf n l q) := by
  unfold regs at h
  rw [List.mem_mergeSort, List.mem_map] at h
  obtain ⟨q, h1, h2⟩ := h
  exact ⟨q, h1, h2.symm⟩
theorem fw_len (l : List Ch) (hi : Int) (ex : Option Ch) : ∀ (m : Nat) (a : Int), (fw l hi ex m a).1.length ≤ m ∧ (fw l hi ex m a).2.1.length ≤ m ∧ (fw l hi ex m a).2.2.length ≤ m
  | 0, a => by simp [fw]
  | m + 1, a => by
    simp only [fw]
    split
    · split
      · obtain ⟨h1, h2, h3⟩ := fw_len l hi ex m (nextOf hi ex a l a)
        simp only [List.length_cons]; omega
      · obtain ⟨h1, h2, h3⟩ := fw_len l hi ex m (a + 1)
        simp only [List.length_cons]; omega
    · simp
theorem regs_small {n : Int} {l : List Ch} (h : plane n l = true) {x : S71} (hx : x ∈ regs n l) : x.f0.length ≤ 100 ∧ x.f1.length ≤ 100 ∧ x.f2.length ≤ 100 := by
  obtain ⟨q, hq, rfl⟩ := regs_mem hx
  have hn := good_n (plane_good h)
  have hlo := lo_in (plane_nc h) (by omega) (mem_ids.1 hq)
  show (regOf n l q).1.length ≤ 100 ∧ (regOf n l q).2.1.length ≤ 100 ∧ (regOf n l q).2.2.length ≤ 100
  rw [regOf_eq]
  have hf := fw_len l (hiOf n q) q (hiOf n q - loOf q).toNat (loOf q)
  have hm : (hiOf n q - loOf q).toNat ≤ 60 := by omega
  cases q <;> simp only [List.length_cons, List.length_append, List.length_nil] <;> omega
end Go.Proofs.Yteeghncofacmhaa.Q
end
section
namespace Go.Proofs.Yteeghncofacmhaa.Q
open Go.RowKit Go.Proofs.YteeghncofacmhaaW.PrintWords Go.Proofs.YteeghncofacmhaaW.PrintLast Go.Proofs.YteeghncofacmhaaW.PrintMore
attribute [local go_sem] max2_int min2_int max_two min_two max_three min_three max_four min_four   -- for this text's walks alone
set_option linter.unusedVariables false
set_option linter.unusedSimpArgs false
/-! ### laws_szChordS: function 10 -/
def laws_szChordS.f (l0 : List (S66)) (a1 : Int) : Option (Int) := if (wrap64 (a1 - (l0.length : Int))) < 0 then (some (-1)) else (some (wrap64 (a1 - (l0.length : Int))))
set_option maxHeartbeats 8000000 in
set_option maxRecDepth 100000 in
theorem laws_szChordS.calls (A0 : Option Addr) (c0 : Nat) (l0 : List (S66)) (a1 : Int) (r : Int) (w : World) (hr0 : Kd.C k66 w A0 l0.length l0) (hc0 : l0.length ≤ c0) (h : laws_szChordS.f l0 a1 = some r) :
    Calls Try.prog 10 #[.slice A0 l0.length c0, .int .i64 a1] w fun e w' => e = .returned (.int .i64 r) ∧ Drawn0 w w' := by
  have HR0 := Aside0.mk hr0
  have HC0 := Aside0.mk hc0
  clear hr0 hc0
  have H : (if (wrap64 (a1 - (l0.length : Int))) < 0 then (some (-1)) else (some (wrap64 (a1 - (l0.length : Int))))) = some r := h
  clear h
  by_cases c3 : (wrap64 (a1 - (l0.length : Int))) < 0
  · rw [if_pos c3] at H
    have c3b0 : decide ((wrap64 (a1 - (l0.length : Int))) < 0) = true := decide_eq_true c3
    clear c3
    obtain rfl := Option.some.inj H
    go_enter Try.func10, Try.ntmps10
    go_wp2
    go_ret
    exact ⟨by first | rfl | (simp; done) | (simp [*]; done), by repeat (first | exact Drawn0.refl _ | apply Drawn0.step)⟩
  · rw [if_neg c3] at H
    have c3b0 : decide ((wrap64 (a1 - (l0.length : Int))) < 0) = false := decide_eq_false c3
    clear c3
    obtain rfl := Option.some.inj H
    go_enter Try.func10, Try.ntmps10
    go_wp2
    go_ret
    exact ⟨by first | rfl | (simp; done) | (simp [*]; done), by repeat (first | exact Drawn0.refl _ | apply Drawn0.step)⟩
end Go.Proofs.Yteeghncofacmhaa.Q
end
section
namespace Go.Proofs.Yteeghncofacmhaa.Q
open Go.RowKit Go.Proofs.YteeghncofacmhaaW.PrintWords Go.Proofs.YteeghncofacmhaaW.PrintLast Go.Proofs.YteeghncofacmhaaW.PrintMore
attribute [local go_sem] max2_int min2_int max_two min_two max_three min_three max_four min_four   -- for this text's walks alone
set_option linter.unusedVariables false
set_option linter.unusedSimpArgs false
/-! ### laws_toChord: function 58 -/
def laws_toChord.f (a0_0 : Int) (a0_1 : Int) : Option (Int × Int) := some (a0_0, a0_1)
set_option maxHeartbeats 8000000 in
set_option maxRecDepth 100000 in
theorem laws_toChord.calls (a0_0 : Int) (a0_1 : Int) (r1 : Int) (r2 : Int) (w : World) (h : laws_toChord.f a0_0 a0_1 = some (r1, r2)) :
    Calls Try.prog 58 #[.agg #[.int .i64 a0_0, .int .i64 a0_1]] w fun e w' => e = .returned (.agg #[.int .i64 r1, .int .i64 r2]) ∧ Below w.heap.size w w' := by
  have hu66 := Try.underlying66
  have hu64 := Try.underlying64
  have HB := Aside0.mk (Below.refl w.heap.size w)
  have H : (some (a0_0, a0_1)) = some (r1, r2) := h
  clear h
  simp only [Option.some.injEq, Prod.mk.injEq] at H
  obtain ⟨rfl, rfl⟩ := H
  go_enter Try.func58, Try.ntmps58
  go_wp2_with (first | ((with_reducible refine gate_dst (N := 1) rfl ?_); refine box_event ?hg (N := 1) ?hd (cs := #[.int .i64 a0_0, .int .i64 a0_1]) (t := 66) ?hr ?_; (case hd => rfl); (case hg => rfl); (case hr => first | (go_simp; done) | (go_simp; rfl)); intro gb101 hg w2 hbox hb; have n0_ := Aside0.mk (below_step (by repeat (first | (with_reducible first | exact HB.out | apply below_alloc | apply pw_below_drewN | apply below_drew1) | exact HB.out)) hb); have n1_ := Aside0.mk (hbox); have n2_ := Aside0.mk ((by rw [hg]; exact (below_size (by repeat (first | (with_reducible first | exact HB.out | apply below_alloc | apply pw_below_drewN | apply below_drew1) | exact HB.out))) : w.heap.size ≤ gb101)); have n3_ := Aside0.mk ((by rw [hg]; exact (below_size (by repeat (first | (with_reducible first | exact HB.out | apply below_alloc | apply pw_below_drewN | apply below_drew1) | exact HB.out))) : w.heap.size ≤ gb101)); clear HB; have HB := n0_; have BK101 := n1_; have GW101 := n2_; have GE101 := n3_; clear n0_ n1_ n2_ n3_; clear hb hbox hg) | ((with_reducible refine gate_dst (N := 2) rfl ?_); refine box_event ?hg (N := 2) ?hd (cs := #[.int .i64 0, .int .i64 0]) (t := 64) ?hr ?_; (case hd => rfl); (case hg => rfl); (case hr => first | (go_simp; done) | (go_simp; rfl)); intro gb102 hg w3 hbox hb; have n0_ := Aside0.mk (blk_below (g := gb101) (o := .cells #[.int .i64 a0_0, .int .i64 a0_1] 66 (0, 0)) (by (with_reducible repeat (first | refine blk_drewN ?_ _ | refine blk_drew ?_ | refine blk_alloc ?_ _)); exact BK101.out) hb); have n1_ := Aside0.mk (below_step (by repeat (first | (with_reducible first | exact HB.out | apply below_alloc | apply pw_below_drewN | apply below_drew1 | refine below_set ?_ GE101.out) | exact HB.out)) hb); have n2_ := Aside0.mk (hbox); have n3_ := Aside0.mk ((by rw [hg]; exact (below_size (by repeat (first | (with_reducible first | exact HB.out | apply below_alloc | apply pw_below_drewN | apply below_drew1 | refine below_set ?_ GE101.out) | exact HB.out))) : w.heap.size ≤ gb102)); have n4_ := Aside0.mk ((by rw [hg]; exact (below_size (by repeat (first | (with_reducible first | exact HB.out | apply below_alloc | apply pw_below_drewN | apply below_drew1 | refine below_set ?_ GE101.out) | exact HB.out))) : w.heap.size ≤ gb102)); have n5_ := Aside0.mk ((by rw [hg]; exact Nat.ne_of_lt (blk_lt (g := gb101) (o := .cells #[.int .i64 a0_0, .int .i64 a0_1] 66 (0, 0)) (by (with_reducible repeat (first | refine blk_drewN ?_ _ | refine blk_drew ?_ | refine blk_alloc ?_ _)); exact BK101.out)) : gb101 ≠ gb102)); have n6_ := Aside0.mk ((by rw [hg]; exact Nat.ne_of_gt (blk_lt (g := gb101) (o := .cells #[.int .i64 a0_0, .int .i64 a0_1] 66 (0, 0)) (by (with_reducible repeat (first | refine blk_drewN ?_ _ | refine blk_drew ?_ | refine blk_alloc ?_ _)); exact BK101.out)) : gb102 ≠ gb101)); clear BK101; clear HB; have BK101 := n0_; have HB := n1_; have BK102 := n2_; have GW102 := n3_; have GE102 := n4_; have NB101_102 := n5_; have NB102_101 := n6_; clear n0_ n1_ n2_ n3_ n4_ n5_ n6_; clear hb hbox hg) | ((with_reducible refine gate_dst (N := 3) rfl ?_); refine box_event ?hg (N := 3) ?hd (cs := #[.int .i64 0, .int .i64 0]) (t := 64) ?hr ?_; (case hd => rfl); (case hg => rfl); (case hr => first | (go_simp; done) | (go_simp; rfl)); intro gb103 hg w4 hbox hb; have n0_ := Aside0.mk (blk_below (g := gb101) (o := .cells #[.int .i64 a0_0, .int .i64 a0_1] 66 (0, 0)) (by (with_reducible repeat (first | refine blk_drewN ?_ _ | refine blk_drew ?_ | refine blk_alloc ?_ _)); exact BK101.out) hb); have n1_ := Aside0.mk (blk_below (g := gb102) (o := .cells #[.int .i64 0, .int .i64 0] 64 (0, 0)) (by (with_reducible repeat (first | refine blk_drewN ?_ _ | refine blk_drew ?_ | refine blk_alloc ?_ _)); exact BK102.out) hb); have n2_ := Aside0.mk (below_step (by repeat (first | (with_reducible first | exact HB.out | apply below_alloc | apply pw_below_drewN | apply below_drew1 | refine below_set ?_ GE101.out | refine below_set ?_ GE102.out) | exact HB.out)) hb); have n3_ := Aside0.mk (hbox); have n4_ := Aside0.mk ((by rw [hg]; exact (below_size (by repeat (first | (with_reducible first | exact HB.out | apply below_alloc | apply pw_below_drewN | apply below_drew1 | refine below_set ?_ GE101.out | refine below_set ?_ GE102.out) | exact HB.out))) : w.heap.size ≤ gb103)); have n5_ := Aside0.mk ((by rw [hg]; exact (below_size (by repeat (first | (with_reducible first | exact HB.out | apply below_alloc | apply pw_below_drewN | apply below_drew1 | refine below_set ?_ GE101.out | refine below_set ?_ GE102.out) | exact HB.out))) : w.heap.size ≤ gb103)); have n6_ := Aside0.mk ((by rw [hg]; exact Nat.ne_of_lt (blk_lt (g := gb101) (o := .cells #[.int .i64 a0_0, .int .i64 a0_1] 66 (0, 0)) (by (with_reducible repeat (first | refine blk_drewN ?_ _ | refine blk_drew ?_ | refine blk_alloc ?_ _)); exact BK101.out)) : gb101 ≠ gb103)); have n7_ := Aside0.mk ((by rw [hg]; exact Nat.ne_of_gt (blk_lt (g := gb101) (o := .cells #[.int .i64 a0_0, .int .i64 a0_1] 66 (0, 0)) (by (with_reducible repeat (first | refine blk_drewN ?_ _ | refine blk_drew ?_ | refine blk_alloc ?_ _)); exact BK101.out)) : gb103 ≠ gb101)); have n8_ := Aside0.mk ((by rw [hg]; exact Nat.ne_of_lt (blk_lt (g := gb102) (o := .cells #[.int .i64 0, .int .i64 0] 64 (0, 0)) (by (with_reducible repeat (first | refine blk_drewN ?_ _ | refine blk_drew ?_ | refine blk_alloc ?_ _)); exact BK102.out)) : gb102 ≠ gb103)); have n9_ := Aside0.mk ((by rw [hg]; exact Nat.ne_of_gt (blk_lt (g := gb102) (o := .cells #[.int .i64 0, .int .i64 0] 64 (0, 0)) (by (with_reducible repeat (first | refine blk_drewN ?_ _ | refine blk_drew ?_ | refine blk_alloc ?_ _)); exact BK102.out)) : gb103 ≠ gb102)); clear BK101; clear BK102; clear HB; have BK101 := n0_; have BK102 := n1_; have HB := n2_; have BK103 := n3_; have GW103 := n4_; have GE103 := n5_; have NB101_103 := n6_; have NB103_101 := n7_; have NB102_103 := n8_; have NB103_102 := n9_; clear n0_ n1_ n2_ n3_ n4_ n5_ n6_ n7_ n8_ n9_; clear hb hbox hg; have hnb5 := NB101_102.out; have hnc5 := NB102_101.out; have hnb6 := NB101_103.out; have hnc6 := NB103_101.out; have hcz7_0 : w4.cell? ⟨gb101, 0, none⟩ = some (.int .i64 a0_0) := (blk_cell BK101.out 0).trans rfl; have hcz7_1 : w4.cell? ⟨gb101, 1, none⟩ = some (.int .i64 a0_1) := (blk_cell BK101.out 1).trans rfl; have hfz7_0 := blk_frozen BK101.out 0; have hfz7_1 := blk_frozen BK101.out 1; have hnb8 := NB103_102.out; have hnc8 := NB102_103.out; have hcz9_0 : w4.cell? ⟨gb103, 0, none⟩ = some (.int .i64 0) := (blk_cell BK103.out 0).trans rfl; have hcz9_1 : w4.cell? ⟨gb103, 1, none⟩ = some (.int .i64 0) := (blk_cell BK103.out 1).trans rfl; have hfz9_0 := blk_frozen BK103.out 0; have hfz9_1 := blk_frozen BK103.out 1; have hcz10_0 : w4.cell? ⟨gb102, 0, none⟩ = some (.int .i64 0) := (blk_cell BK102.out 0).trans rfl; have hcz10_1 : w4.cell? ⟨gb102, 1, none⟩ = some (.int .i64 0) := (blk_cell BK102.out 1).trans rfl; have hfz10_0 := blk_frozen BK102.out 0; have hfz10_1 := blk_frozen BK102.out 1))
  refine bodyPost_ret (results_cell_row rfl _ _ gb102 64 #[.int .i64 a0_0, .int .i64 a0_1] (0, 0) _ rfl (by (with_reducible repeat (first | refine blk_drewN ?_ _ | refine blk_drew ?_ | refine blk_alloc ?_ _)); refine blk_put (cs := #[.int .i64 a0_0, .int .i64 0]) ?_ 1 _ rfl; (with_reducible repeat (first | refine blk_drewN ?_ _ | refine blk_drew ?_ | refine blk_alloc ?_ _)); refine blk_put (cs := #[.int .i64 0, .int .i64 0]) ?_ 0 _ rfl; (with_reducible repeat (first | refine blk_drewN ?_ _ | refine blk_drew ?_ | refine blk_alloc ?_ _)); refine blk_far ?_ NB102_103.out _; (with_reducible repeat (first | refine blk_drewN ?_ _ | refine blk_drew ?_ | refine blk_alloc ?_ _)); refine blk_far ?_ NB102_103.out _; (with_reducible repeat (first | refine blk_drewN ?_ _ | refine blk_drew ?_ | refine blk_alloc ?_ _)); exact BK102.out) Try.underlying64 rfl (by kernel_rfl)) rfl ?_
  exact ⟨by first | rfl | (simp [errW_none, errW_some] <;> rfl) | (simp [*, errW_none, errW_some] <;> rfl), by repeat (first | (with_reducible first | exact HB.out | apply below_alloc | apply pw_below_drewN | apply below_drew1 | refine below_set ?_ GE101.out | refine below_set ?_ GE102.out | refine below_set ?_ GE103.out) | exact HB.out)⟩
end Go.Proofs.Yteeghncofacmhaa.Q
end
section
namespace Go.Proofs.Yteeghncofacmhaa.Q
open Go.RowKit Go.Proofs.YteeghncofacmhaaW.PrintWords Go.Proofs.YteeghncofacmhaaW.PrintLast Go.Proofs.YteeghncofacmhaaW.PrintMore
attribute [local go_sem] max2_int min2_int max_two min_two max_three min_three max_four min_four   -- for this text's walks alone
set_option linter.unusedVariables false
set_option linter.unusedSimpArgs false
/-! ### laws_toChordS: function 12 -/
def laws_toChordS.l0 : Nat → List (S66) → List (S64) → Int → Option ((List (S64)))
  | 0, _, _, _ => none
  | k + 1, x0, x3, x4 => if x4 < (x0.length : Int) then (if 0 ≤ x4 then ((laws_toChord.f ((rd_T66 x0 x4).f0) ((rd_T66 x0 x4).f1)).bind fun bt105 => (if x4 < (x3.length : Int) then (laws_toChordS.l0 k x0 (x3.set (x4 : Int).toNat (⟨bt105.1, bt105.2⟩ : S64)) (wrap64 (x4 + 1))) else (none))) else (none)) else (some x3)
def laws_toChordS.f (k : Nat) (l0 : List (S66)) : Option ((List (S64))) := if 0 ≤ (l0.length : Int) then (if ((l0.length : Int) : Int).toNat ≤ 17592186044416 then (laws_toChordS.l0 k l0 (List.replicate ((l0.length : Int) : Int).toNat z64) 0) else (none)) else (none)
set_option maxHeartbeats 8000000 in
set_option maxRecDepth 100000 in
theorem laws_toChordS.calls (k : Nat) (A0 : Option Addr) (c0 : Nat) (l0 : List (S66)) (r : List (S64)) (w : World) (hr0 : Kd.C k66 w A0 l0.length l0) (hc0 : l0.length ≤ c0) (h : laws_toChordS.f k l0 = some r) :
    Calls Try.prog 12 #[.slice A0 l0.length c0] w fun e w' => ∃ v0_ : Value, e = .returned (v0_) ∧ Kd.R k64 64 w' w.heap.size (fun _ => True) v0_ r ∧ Below w.heap.size w w' := by
  have hu66 := Try.underlying66
  have hu64 := Try.underlying64
  have HR0 := Aside0.mk hr0
  have HC0 := Aside0.mk hc0
  clear hr0 hc0
  have HB := Aside0.mk (Below.refl w.heap.size w)
  have H : (if 0 ≤ (l0.length : Int) then (if ((l0.length : Int) : Int).toNat ≤ 17592186044416 then (laws_toChordS.l0 k l0 (List.replicate ((l0.length : Int) : Int).toNat z64) 0) else (none)) else (none)) = some r := h
  clear h
  by_cases c2 : 0 ≤ (l0.length : Int)
  · rw [if_pos c2] at H
    have c2b0 := eq_true c2
    have c2b1 : decide (0 ≤ (l0.length : Int)) = true := decide_eq_true c2
    clear c2
    by_cases c3 : ((l0.length : Int) : Int).toNat ≤ 17592186044416
    · rw [if_pos c3] at H
      have c3b0 := eq_true c3
      have c3b1 : decide (((l0.length : Int) : Int).toNat ≤ 17592186044416) = true := decide_eq_true c3
      clear c3
      obtain ⟨y101, hy101⟩ : ∃ y_ : List (S64), y_ = (List.replicate ((l0.length : Int) : Int).toNat z64) := ⟨_, rfl⟩
      replace H : (laws_toChordS.l0 k l0 y101 0) = some r := by first | (rw [hy101]; with_reducible exact H) | (have H2_ := (Option.bind_some _ _).symm.trans H; rw [hy101]; with_reducible exact H2_) | (have H2_ := (Option.bind_some _ _).symm.trans H; with_reducible exact H2_) | with_reducible exact H | (rw [hy101]; exact H) | exact H
      have Ny101 := Aside0.mk hy101
      clear hy101
      have H' := Aside0.mk H
      clear H
      go_enter Try.func12, Try.ntmps12
      go_wp2_with (first | ((with_reducible refine gate_dst (N := 7) rfl ?_); refine Kd.R_make k64 _ 64 rfl (N := 7) rfl 27 _ _ rfl (l0.length : Int) rfl rfl Try.underlying27 (.agg #[(.int .i64 0), (.int .i64 0)]) 16 info64 rfl (by decide) (by omega) z64 (ok := fun _ => True) (okp := fun _ => True) (k64_mkM _ _ _ z64 ) (fun _ hk => hk) trivial (of_decide_eq_true (by first | (with_reducible assumption) | assumption)) (Nat.le_trans (Nat.mul_le_mul_right _ (of_decide_eq_true (by first | (with_reducible assumption) | assumption) : (l0.length : Int).toNat ≤ 17592186044416)) (by omega)) (Below.refl _ _) (Nat.le_refl _) ?_; intro v102 w4 ho5 hb hg_ hnew_; clear hg_ hnew_; (first | rw [← Ny101.out] at ho5 | (simp only [Int.reduceToNat] at ho5; rw [← Ny101.out] at ho5)); have n0_ := Aside0.mk (Kd.R_lower ho5 (below_size (by repeat (first | (with_reducible first | exact HB.out | apply below_alloc | apply pw_below_drewN | apply below_drew1) | exact HB.out)))); have n1_ := Aside0.mk (below_step (by repeat (first | (with_reducible first | exact HB.out | apply below_alloc | apply pw_below_drewN | apply below_drew1) | exact HB.out)) hb); clear HB; have HO103 := n0_; have HB := n1_; clear n0_ n1_; clear hb ho5))
      go_loopg [4] k (fun kq v4 w' => ∃ (x3_1 : List (S64)) (x4_1 : Int), v4 = .int .i64 x4_1 ∧ Aside0 (laws_toChordS.l0 kq l0 x3_1 x4_1 = some r) ∧ Aside0 (kq ≤ k) ∧ Aside0 (Kd.R k64 64 w' w.heap.size (fun _ => True) v102 x3_1) ∧ Aside0 (Below w.heap.size w w'))
      case atStart => exact ⟨(y101), (0), (by first | rfl | (simp; done) | (simp [*]; done)), H', ⟨Nat.le_refl _⟩, ⟨by (with_reducible repeat (first | apply Kd.R_alloc | apply Kd.R_drewN | apply Kd.R_drew)); exact HO103.out⟩, ⟨by repeat (first | (with_reducible first | exact HB.out | apply below_alloc | apply pw_below_drewN | apply below_drew1) | exact HB.out)⟩⟩
      case round =>
        clear H'
        try clear c1
        try clear c2
        try clear c2b0
        try clear c2b1
        try clear p2
        try clear c3
        try clear c3b0
        try clear c3b1
        obtain ⟨x3_1, x4_1, rfl, HA, HK1, HO_3, HB⟩ := hrel
        cases gk with
        | zero => exact absurd HA.out (by simp [laws_toChordS.l0])
        | succ k1 =>
          have H := HA.out
          clear HA
          simp only [laws_toChordS.l0] at H
          by_cases c6 : x4_1 < (l0.length : Int)
          · rw [if_pos c6] at H
            have c6b0 : decide (x4_1 < (l0.length : Int)) = true := decide_eq_true c6
            clear c6
            by_cases c7 : 0 ≤ x4_1
            · rw [if_pos c7] at H
              have c7b0 : decide (0 ≤ x4_1) = true := decide_eq_true c7
              clear c7
              replace H := Option.bind_eq_some_iff.mp H
              obtain ⟨⟨t105, t106⟩, A80, H⟩ := H
              replace H : (if x4_1 < (x3_1.length : Int) then (laws_toChordS.l0 k1 l0 (x3_1.set (x4_1 : Int).toNat (⟨t105, t106⟩ : S64)) (wrap64 (x4_1 + 1))) else (none)) = some r := H
              have A8 := Aside0.mk A80
              clear A80
              by_cases c9 : x4_1 < (x3_1.length : Int)
              · rw [if_pos c9] at H
                have c9b0 : decide (x4_1 < (x3_1.length : Int)) = true := decide_eq_true c9
                clear c9
                obtain ⟨y107, hy107⟩ : ∃ y_ : List (S64), y_ = (x3_1.set (x4_1 : Int).toNat (⟨t105, t106⟩ : S64)) := ⟨_, rfl⟩
                replace H : (laws_toChordS.l0 k1 l0 y107 (wrap64 (x4_1 + 1))) = some r := by first | (rw [hy107]; with_reducible exact H) | (have H2_ := (Option.bind_some _ _).symm.trans H; rw [hy107]; with_reducible exact H2_) | (have H2_ := (Option.bind_some _ _).symm.trans H; with_reducible exact H2_) | with_reducible exact H | (rw [hy107]; exact H) | exact H
                have Ny107 := Aside0.mk hy107
                clear hy107
                have H' := Aside0.mk H
                clear H
                have p104 : 0 ≤ (x4_1 : Int) := of_decide_eq_true (by first | (with_reducible assumption) | assumption)
                have q104 : x4_1 < (l0.length : Int) := of_decide_eq_true (by first | (with_reducible assumption) | assumption)
                obtain ⟨ad104, e104, hx104_0, hx104_1⟩ := at_T66 HR0.out x4_1 p104 q104
                cases e104
                try replace hx104_0 := (HB.out.cell (World.block_lt_of_cell? w _ hx104_0)).trans hx104_0
                try replace hx104_1 := (HB.out.cell (World.block_lt_of_cell? w _ hx104_1)).trans hx104_1
                replace p104 := eq_true p104
                replace q104 := eq_true q104
                go_wp2_with (first | ((with_reducible refine gate_callee (f := 58) rfl ?_); refine goesL_ (some 20) rfl rfl Try.func58 (by kernel_rfl) rfl #[.agg #[.int .i64 ((rd_T66 l0 x4_1).f0), .int .i64 ((rd_T66 l0 x4_1).f1)]] rfl (by (try simp only [List.map_toArray, List.map_cons, List.map_nil]); first | done | rfl | (simp only [List.length_drop, List.length_take]; rfl)) ?_; (with_reducible refine (laws_toChord.calls ((rd_T66 l0 x4_1).f0) ((rd_T66 l0 x4_1).f1) t105 t106 _ A8.out).mono ?_); rintro e w11 ⟨rfl, hb⟩; refine ⟨_, rfl, ?_⟩; have n0_ := Aside0.mk (Kd.R_below (by (with_reducible repeat (first | apply Kd.R_alloc | apply Kd.R_drewN | apply Kd.R_drew)); exact HO_3.out) hb); have n1_ := Aside0.mk (below_step (by repeat (first | (with_reducible first | exact HB.out | apply below_alloc | apply pw_below_drewN | apply below_drew1) | exact HB.out)) hb); clear HO_3; clear HB; have HO_3 := n0_; have HB := n1_; clear n0_ n1_; (try clear hb); (try clear hb2); (try clear hk); (try clear hi); have p10 : 0 ≤ (x4_1 : Int) := of_decide_eq_true (by first | (with_reducible assumption) | assumption); have q10 : (x4_1 : Int) < ((x3_1.length : Int) : Int) := of_decide_eq_true (by first | (with_reducible assumption) | assumption); obtain ⟨go10, co10, eo10, gb10, gl10, cl10, HG10⟩ := Kd.R_form HO_3.out (by omega); (first | cases eo10 | (injection eo10 with ea_ en_ ec_; (first | subst ea_ | (injection ea_ with ea_; subst ea_)); subst ec_; clear en_)); have GB10 := Aside0.mk gb10; have GG10 := Aside0.mk HG10; clear gb10 gl10 HG10; obtain ⟨ce10, hcl10, hM10, hcc10, hfr10⟩ := Kd.R_elem HO_3.out z64 (x4_1 : Int) p10 q10; obtain rfl := k64_openM hM10; have hx10_0 : w11.cell? ⟨go10, (x4_1 : Int).toNat * 2, none⟩ = some (.int .i64 ((rd_T64 x3_1 x4_1).f0)) := hcc10 0 _ rfl; have hx10_1 : w11.cell? ⟨go10, (x4_1 : Int).toNat * 2 + 1, none⟩ = some (.int .i64 ((rd_T64 x3_1 x4_1).f1)) := hcc10 1 _ rfl; have hf10_0 : w11.frozen? ⟨go10, (x4_1 : Int).toNat * 2, none⟩ = false := hfr10 0; have hf10_1 : w11.frozen? ⟨go10, (x4_1 : Int).toNat * 2 + 1, none⟩ = false := hfr10 1; clear hcl10 hcc10 hfr10 hM10; replace p10 := eq_true p10; replace q10 := eq_true q10; have HX12 := Aside0.mk (show Kd.R k64 64 w11 w.heap.size (fun _ => True) (.slice (some ⟨go10, 0, none⟩) x3_1.length co10) x3_1 from (by (with_reducible repeat (first | apply Kd.R_alloc | apply Kd.R_drewN | apply Kd.R_drew)); exact HO_3.out)); obtain ⟨ce12, hcl12, hM12, hcc12, hfr12⟩ := Kd.R_elem HX12.out z64 (x4_1 : Int) (of_decide_eq_true (by first | (with_reducible assumption) | assumption)) (by have h_ : (x4_1 : Int) < ((x3_1.length : Int) : Int) := of_decide_eq_true (by first | (with_reducible assumption) | assumption); first | exact h_ | (have e_ := (Kd.R_reads' HO_3.out).1; omega) | simpa using h_); obtain rfl := k64_openM hM12; have HP12 := Kd.R_seg HX12.out (x4_1 : Int) (of_decide_eq_true (by first | (with_reducible assumption) | assumption)) (by have h_ : (x4_1 : Int) < ((x3_1.length : Int) : Int) := of_decide_eq_true (by first | (with_reducible assumption) | assumption); first | exact h_ | (have e_ := (Kd.R_reads' HO_3.out).1; omega) | simpa using h_) (seg := [.int .i64 t105, .int .i64 t106]) (j := 0) hcl12 hcc12 (show 2 ≤ 2 from by decide) (x' := (⟨t105, t106⟩ : S64)) (k64_mkM _ _ _ (⟨t105, t106⟩ : S64) ) (fun _ hk => hk); have hx12_0 := hcc12 0 _ rfl; (try simp only [show (k64).sz = 2 from rfl, Nat.mul_one, Nat.add_zero] at hx12_0); have hf12_0 := hfr12 0; (try simp only [show (k64).sz = 2 from rfl, Nat.mul_one, Nat.add_zero] at hf12_0); have hx12_1 := hcc12 1 _ rfl; (try simp only [show (k64).sz = 2 from rfl, Nat.mul_one, Nat.add_zero] at hx12_1); have hf12_1 := hfr12 1; (try simp only [show (k64).sz = 2 from rfl, Nat.mul_one, Nat.add_zero] at hf12_1); clear hcl12 hcc12 hfr12 hM12) | ((with_reducible refine gate_store (t := 64) (p := 21) rfl ?_); refine store_event (t := 64) (p := 21) (v := ?vo_w13) (w1 := ((w11.setCell ⟨go10, (x4_1 : Int).toNat * 2, none⟩ (.int .i64 t105)).setCell ⟨go10, (x4_1 : Int).toNat * 2 + 1, none⟩ (.int .i64 t106))) ?hg ?ho ?hn ?hr ?_; (case ho => rfl); (case hg => rfl); (case hn => rfl); (case hr => first | (go_simp; done) | (go_simp; rfl)); intro w13 hw; have hg : w11.grownBy w13 (some go10) := (by rw [hw]; exact HP12.2); have hp_ : Kd.R k64 64 w13 w.heap.size (fun _ => True) (.slice (some ⟨go10, 0, none⟩) x3_1.length co10) y107 := (by rw [hw, Ny107.out]; exact HP12.1); clear HP12; have n0_ := Aside0.mk (hp_); have n1_ := Aside0.mk ((by rw [hw]; exact below_set (below_set (HB.out) GB10.out) GB10.out : Below w.heap.size w w13)); clear HO_3; clear HB; have HO_3 := n0_; have HB := n1_; clear n0_ n1_; clear hg hw hp_))
                go_roundg k1
                case measure => have := HK1.out; omega
                case rel => exact ⟨(y107), (wrap64 (x4_1 + 1)), (by first | rfl | (simp; done) | (simp [*]; done)), H', ⟨by have := HK1.out; omega⟩, ⟨by (with_reducible repeat (first | apply Kd.R_alloc | apply Kd.R_drewN | apply Kd.R_drew)); exact HO_3.out⟩, ⟨by repeat (first | (with_reducible first | exact HB.out | apply below_alloc | apply pw_below_drewN | apply below_drew1) | exact HB.out)⟩⟩
              · rw [if_neg c9] at H
                exact absurd H (by simp)
            · rw [if_neg c7] at H
              exact absurd H (by simp)
          · rw [if_neg c6] at H
            have c6b0 : decide (x4_1 < (l0.length : Int)) = false := decide_eq_false c6
            clear c6
            obtain rfl := Option.some.inj H
            go_wp2
            go_ret
            exact ⟨_, by first | rfl | (simp [errW_none, errW_some] <;> rfl) | (simp [*, errW_none, errW_some] <;> rfl), by (with_reducible repeat (first | apply Kd.R_alloc | apply Kd.R_drewN | apply Kd.R_drew)); exact HO_3.out, by repeat (first | (with_reducible first | exact HB.out | apply below_alloc | apply pw_below_drewN | apply below_drew1) | exact HB.out)⟩
    · rw [if_neg c3] at H
      exact absurd H (by simp)
  · rw [if_neg c2] at H
    exact absurd H (by simp)
end Go.Proofs.Yteeghncofacmhaa.Q
end
section
namespace Go.Proofs.Yteeghncofacmhaa.Q
open Go.RowKit Go.Proofs.YteeghncofacmhaaW.PrintWords Go.Proofs.YteeghncofacmhaaW.PrintLast Go.Proofs.YteeghncofacmhaaW.PrintMore
attribute [local go_sem] max2_int min2_int max_two min_two max_three min_three max_four min_four   -- for this text's walks alone
set_option linter.unusedVariables false
set_option linter.unusedSimpArgs false
/-! ### laws_eqIntS: function 14 -/
def laws_eqIntS.l0 : Nat → List Int → List Int → Int → Option (Bool)
  | 0, _, _, _ => none
  | k + 1, x0, x1, x5 => if x5 < (x0.length : Int) then (if 0 ≤ x5 then (if x5 < (x1.length : Int) then (if (rd x0 x5) = (rd x1 x5) then (laws_eqIntS.l0 k x0 x1 (wrap64 (x5 + 1))) else (some false)) else (none)) else (none)) else (some true)
def laws_eqIntS.f (k : Nat) (l0 : List Int) (l1 : List Int) : Option (Bool) := if (l0.length : Int) = (l1.length : Int) then (laws_eqIntS.l0 k l0 l1 0) else (some false)
end Go.Proofs.Yteeghncofacmhaa.Q
end
section
namespace Go.Proofs.Yteeghncofacmhaa.Q
open Go.RowKit Go.Proofs.YteeghncofacmhaaW.PrintWords Go.Proofs.YteeghncofacmhaaW.PrintLast Go.Proofs.YteeghncofacmhaaW.PrintMore
attribute [local go_sem] max2_int min2_int max_two min_two max_three min_three max_four min_four   -- for this text's walks alone
set_option linter.unusedVariables false
set_option linter.unusedSimpArgs false
/-! ### laws_eqChord: function 60 -/
def laws_eqChord.f (a0_0 : Int) (a0_1 : Int) (a1_0 : Int) (a1_1 : Int) : Option (Bool) := if a0_0 = a1_0 then (if a0_1 = a1_1 then (some true) else (some false)) else (some false)
set_option maxHeartbeats 8000000 in
set_option maxRecDepth 100000 in
theorem laws_eqChord.calls (a0_0 : Int) (a0_1 : Int) (a1_0 : Int) (a1_1 : Int) (r : Bool) (w : World) (h : laws_eqChord.f a0_0 a0_1 a1_0 a1_1 = some r) :
    Calls Try.prog 60 #[.agg #[.int .i64 a0_0, .int .i64 a0_1], .agg #[.int .i64 a1_0, .int .i64 a1_1]] w fun e w' => e = .returned (.bool r) ∧ Below w.heap.size w w' := by
  have hu64 := Try.underlying64
  have HB := Aside0.mk (Below.refl w.heap.size w)
  have H : (if a0_0 = a1_0 then (if a0_1 = a1_1 then (some true) else (some false)) else (some false)) = some r := h
  clear h
  by_cases c3 : a0_0 = a1_0
  · rw [if_pos c3] at H
    have c3b0 : (a0_0 == a1_0) = true := beq_iff_eq.mpr c3
    have c3b1 : (a0_0 != a1_0) = false := bne_eq_false_iff_eq.mpr c3
    clear c3
    by_cases c4 : a0_1 = a1_1
    · rw [if_pos c4] at H
      have c4b0 : (a0_1 == a1_1) = true := beq_iff_eq.mpr c4
      have c4b1 : (a0_1 != a1_1) = false := bne_eq_false_iff_eq.mpr c4
      clear c4
      obtain rfl := Option.some.inj H
      go_enter Try.func60, Try.ntmps60
      go_wp2_with (first | ((with_reducible refine gate_dst (N := 2) rfl ?_); refine box_event ?hg (N := 2) ?hd (cs := #[.int .i64 a0_0, .int .i64 a0_1]) (t := 64) ?hr ?_; (case hd => rfl); (case hg => rfl); (case hr => first | (go_simp; done) | (go_simp; rfl)); intro gb101 hg w5 hbox hb; have n0_ := Aside0.mk (below_step (by repeat (first | (with_reducible first | exact HB.out | apply below_alloc | apply pw_below_drewN | apply below_drew1) | exact HB.out)) hb); have n1_ := Aside0.mk (hbox); have n2_ := Aside0.mk ((by rw [hg]; exact (below_size (by repeat (first | (with_reducible first | exact HB.out | apply below_alloc | apply pw_below_drewN | apply below_drew1) | exact HB.out))) : w.heap.size ≤ gb101)); have n3_ := Aside0.mk ((by rw [hg]; exact (below_size (by repeat (first | (with_reducible first | exact HB.out | apply below_alloc | apply pw_below_drewN | apply below_drew1) | exact HB.out))) : w.heap.size ≤ gb101)); clear HB; have HB := n0_; have BK101 := n1_; have GW101 := n2_; have GE101 := n3_; clear n0_ n1_ n2_ n3_; clear hb hbox hg) | ((with_reducible refine gate_dst (N := 3) rfl ?_); refine box_event ?hg (N := 3) ?hd (cs := #[.int .i64 a1_0, .int .i64 a1_1]) (t := 64) ?hr ?_; (case hd => rfl); (case hg => rfl); (case hr => first | (go_simp; done) | (go_simp; rfl)); intro gb102 hg w6 hbox hb; have n0_ := Aside0.mk (blk_below (g := gb101) (o := .cells #[.int .i64 a0_0, .int .i64 a0_1] 64 (0, 0)) (by (with_reducible repeat (first | refine blk_drewN ?_ _ | refine blk_drew ?_ | refine blk_alloc ?_ _)); exact BK101.out) hb); have n1_ := Aside0.mk (below_step (by repeat (first | (with_reducible first | exact HB.out | apply below_alloc | apply pw_below_drewN | apply below_drew1 | refine below_set ?_ GE101.out) | exact HB.out)) hb); have n2_ := Aside0.mk (hbox); have n3_ := Aside0.mk ((by rw [hg]; exact (below_size (by repeat (first | (with_reducible first | exact HB.out | apply below_alloc | apply pw_below_drewN | apply below_drew1 | refine below_set ?_ GE101.out) | exact HB.out))) : w.heap.size ≤ gb102)); have n4_ := Aside0.mk ((by rw [hg]; exact (below_size (by repeat (first | (with_reducible first | exact HB.out | apply below_alloc | apply pw_below_drewN | apply below_drew1 | refine below_set ?_ GE101.out) | exact HB.out))) : w.heap.size ≤ gb102)); have n5_ := Aside0.mk ((by rw [hg]; exact Nat.ne_of_lt (blk_lt (g := gb101) (o := .cells #[.int .i64 a0_0, .int .i64 a0_1] 64 (0, 0)) (by (with_reducible repeat (first | refine blk_drewN ?_ _ | refine blk_drew ?_ | refine blk_alloc ?_ _)); exact BK101.out)) : gb101 ≠ gb102)); have n6_ := Aside0.mk ((by rw [hg]; exact Nat.ne_of_gt (blk_lt (g := gb101) (o := .cells #[.int .i64 a0_0, .int .i64 a0_1] 64 (0, 0)) (by (with_reducible repeat (first | refine blk_drewN ?_ _ | refine blk_drew ?_ | refine blk_alloc ?_ _)); exact BK101.out)) : gb102 ≠ gb101)); clear BK101; clear HB; have BK101 := n0_; have HB := n1_; have BK102 := n2_; have GW102 := n3_; have GE102 := n4_; have NB101_102 := n5_; have NB102_101 := n6_; clear n0_ n1_ n2_ n3_ n4_ n5_ n6_; clear hb hbox hg; have hnb7 := NB101_102.out; have hnc7 := NB102_101.out; have hcz8_0 : w6.cell? ⟨gb101, 0, none⟩ = some (.int .i64 a0_0) := (blk_cell BK101.out 0).trans rfl; have hcz8_1 : w6.cell? ⟨gb101, 1, none⟩ = some (.int .i64 a0_1) := (blk_cell BK101.out 1).trans rfl; have hfz8_0 := blk_frozen BK101.out 0; have hfz8_1 := blk_frozen BK101.out 1; have hcz9_0 : w6.cell? ⟨gb102, 0, none⟩ = some (.int .i64 a1_0) := (blk_cell BK102.out 0).trans rfl; have hcz9_1 : w6.cell? ⟨gb102, 1, none⟩ = some (.int .i64 a1_1) := (blk_cell BK102.out 1).trans rfl; have hfz9_0 := blk_frozen BK102.out 0; have hfz9_1 := blk_frozen BK102.out 1))
      go_ret
      exact ⟨by first | rfl | (simp [errW_none, errW_some] <;> rfl) | (simp [*, errW_none, errW_some] <;> rfl), by repeat (first | (with_reducible first | exact HB.out | apply below_alloc | apply pw_below_drewN | apply below_drew1 | refine below_set ?_ GE101.out | refine below_set ?_ GE102.out) | exact HB.out)⟩
    · rw [if_neg c4] at H
      have c4b0 : (a0_1 == a1_1) = false := beq_eq_false_iff_ne.mpr c4
      have c4b1 : (a0_1 != a1_1) = true := bne_iff_ne.mpr c4
      obtain rfl := Option.some.inj H
      go_enter Try.func60, Try.ntmps60
      go_wp2_with (first | ((with_reducible refine gate_dst (N := 2) rfl ?_); refine box_event ?hg (N := 2) ?hd (cs := #[.int .i64 a0_0, .int .i64 a0_1]) (t := 64) ?hr ?_; (case hd => rfl); (case hg => rfl); (case hr => first | (go_simp; done) | (go_simp; rfl)); intro gb101 hg w10 hbox hb; have n0_ := Aside0.mk (below_step (by repeat (first | (with_reducible first | exact HB.out | apply below_alloc | apply pw_below_drewN | apply below_drew1) | exact HB.out)) hb); have n1_ := Aside0.mk (hbox); have n2_ := Aside0.mk ((by rw [hg]; exact (below_size (by repeat (first | (with_reducible first | exact HB.out | apply below_alloc | apply pw_below_drewN | apply below_drew1) | exact HB.out))) : w.heap.size ≤ gb101)); have n3_ := Aside0.mk ((by rw [hg]; exact (below_size (by repeat (first | (with_reducible first | exact HB.out | apply below_alloc | apply pw_below_drewN | apply below_drew1) | exact HB.out))) : w.heap.size ≤ gb101)); clear HB; have HB := n0_; have BK101 := n1_; have GW101 := n2_; have GE101 := n3_; clear n0_ n1_ n2_ n3_; clear hb hbox hg) | ((with_reducible refine gate_dst (N := 3) rfl ?_); refine box_event ?hg (N := 3) ?hd (cs := #[.int .i64 a1_0, .int .i64 a1_1]) (t := 64) ?hr ?_; (case hd => rfl); (case hg => rfl); (case hr => first | (go_simp; done) | (go_simp; rfl)); intro gb102 hg w11 hbox hb; have n0_ := Aside0.mk (blk_below (g := gb101) (o := .cells #[.int .i64 a0_0, .int .i64 a0_1] 64 (0, 0)) (by (with_reducible repeat (first | refine blk_drewN ?_ _ | refine blk_drew ?_ | refine blk_alloc ?_ _)); exact BK101.out) hb); have n1_ := Aside0.mk (below_step (by repeat (first | (with_reducible first | exact HB.out | apply below_alloc | apply pw_below_drewN | apply below_drew1 | refine below_set ?_ GE101.out) | exact HB.out)) hb); have n2_ := Aside0.mk (hbox); have n3_ := Aside0.mk ((by rw [hg]; exact (below_size (by repeat (first | (with_reducible first | exact HB.out | apply below_alloc | apply pw_below_drewN | apply below_drew1 | refine below_set ?_ GE101.out) | exact HB.out))) : w.heap.size ≤ gb102)); have n4_ := Aside0.mk ((by rw [hg]; exact (below_size (by repeat (first | (with_reducible first | exact HB.out | apply below_alloc | apply pw_below_drewN | apply below_drew1 | refine below_set ?_ GE101.out) | exact HB.out))) : w.heap.size ≤ gb102)); have n5_ := Aside0.mk ((by rw [hg]; exact Nat.ne_of_lt (blk_lt (g := gb101) (o := .cells #[.int .i64 a0_0, .int .i64 a0_1] 64 (0, 0)) (by (with_reducible repeat (first | refine blk_drewN ?_ _ | refine blk_drew ?_ | refine blk_alloc ?_ _)); exact BK101.out)) : gb101 ≠ gb102)); have n6_ := Aside0.mk ((by rw [hg]; exact Nat.ne_of_gt (blk_lt (g := gb101) (o := .cells #[.int .i64 a0_0, .int .i64 a0_1] 64 (0, 0)) (by (with_reducible repeat (first | refine blk_drewN ?_ _ | refine blk_drew ?_ | refine blk_alloc ?_ _)); exact BK101.out)) : gb102 ≠ gb101)); clear BK101; clear HB; have BK101 := n0_; have HB := n1_; have BK102 := n2_; have GW102 := n3_; have GE102 := n4_; have NB101_102 := n5_; have NB102_101 := n6_; clear n0_ n1_ n2_ n3_ n4_ n5_ n6_; clear hb hbox hg; have hnb12 := NB101_102.out; have hnc12 := NB102_101.out; have hcz13_0 : w11.cell? ⟨gb101, 0, none⟩ = some (.int .i64 a0_0) := (blk_cell BK101.out 0).trans rfl; have hcz13_1 : w11.cell? ⟨gb101, 1, none⟩ = some (.int .i64 a0_1) := (blk_cell BK101.out 1).trans rfl; have hfz13_0 := blk_frozen BK101.out 0; have hfz13_1 := blk_frozen BK101.out 1; have hcz14_0 : w11.cell? ⟨gb102, 0, none⟩ = some (.int .i64 a1_0) := (blk_cell BK102.out 0).trans rfl; have hcz14_1 : w11.cell? ⟨gb102, 1, none⟩ = some (.int .i64 a1_1) := (blk_cell BK102.out 1).trans rfl; have hfz14_0 := blk_frozen BK102.out 0; have hfz14_1 := blk_frozen BK102.out 1))
      go_ret
      exact ⟨by first | rfl | (simp [errW_none, errW_some] <;> rfl) | (simp [*, errW_none, errW_some] <;> rfl), by repeat (first | (with_reducible first | exact HB.out | apply below_alloc | apply pw_below_drewN | apply below_drew1 | refine below_set ?_ GE101.out | refine below_set ?_ GE102.out) | exact HB.out)⟩
  · rw [if_neg c3] at H
    have c3b0 : (a0_0 == a1_0) = false := beq_eq_false_iff_ne.mpr c3
    have c3b1 : (a0_0 != a1_0) = true := bne_iff_ne.mpr c3
    obtain rfl := Option.some.inj H
    go_enter Try.func60, Try.ntmps60
    go_wp2_with (first | ((with_reducible refine gate_dst (N := 2) rfl ?_); refine box_event ?hg (N := 2) ?hd (cs := #[.int .i64 a0_0, .int .i64 a0_1]) (t := 64) ?hr ?_; (case hd => rfl); (case hg => rfl); (case hr => first | (go_simp; done) | (go_simp; rfl)); intro gb101 hg w15 hbox hb; have n0_ := Aside0.mk (below_step (by repeat (first | (with_reducible first | exact HB.out | apply below_alloc | apply pw_below_drewN | apply below_drew1) | exact HB.out)) hb); have n1_ := Aside0.mk (hbox); have n2_ := Aside0.mk ((by rw [hg]; exact (below_size (by repeat (first | (with_reducible first | exact HB.out | apply below_alloc | apply pw_below_drewN | apply below_drew1) | exact HB.out))) : w.heap.size ≤ gb101)); have n3_ := Aside0.mk ((by rw [hg]; exact (below_size (by repeat (first | (with_reducible first | exact HB.out | apply below_alloc | apply pw_below_drewN | apply below_drew1) | exact HB.out))) : w.heap.size ≤ gb101)); clear HB; have HB := n0_; have BK101 := n1_; have GW101 := n2_; have GE101 := n3_; clear n0_ n1_ n2_ n3_; clear hb hbox hg) | ((with_reducible refine gate_dst (N := 3) rfl ?_); refine box_event ?hg (N := 3) ?hd (cs := #[.int .i64 a1_0, .int .i64 a1_1]) (t := 64) ?hr ?_; (case hd => rfl); (case hg => rfl); (case hr => first | (go_simp; done) | (go_simp; rfl)); intro gb102 hg w16 hbox hb; have n0_ := Aside0.mk (blk_below (g := gb101) (o := .cells #[.int .i64 a0_0, .int .i64 a0_1] 64 (0, 0)) (by (with_reducible repeat (first | refine blk_drewN ?_ _ | refine blk_drew ?_ | refine blk_alloc ?_ _)); exact BK101.out) hb); have n1_ := Aside0.mk (below_step (by repeat (first | (with_reducible first | exact HB.out | apply below_alloc | apply pw_below_drewN | apply below_drew1 | refine below_set ?_ GE101.out) | exact HB.out)) hb); have n2_ := Aside0.mk (hbox); have n3_ := Aside0.mk ((by rw [hg]; exact (below_size (by repeat (first | (with_reducible first | exact HB.out | apply below_alloc | apply pw_below_drewN | apply below_drew1 | refine below_set ?_ GE101.out) | exact HB.out))) : w.heap.size ≤ gb102)); have n4_ := Aside0.mk ((by rw [hg]; exact (below_size (by repeat (first | (with_reducible first | exact HB.out | apply below_alloc | apply pw_below_drewN | apply below_drew1 | refine below_set ?_ GE101.out) | exact HB.out))) : w.heap.size ≤ gb102)); have n5_ := Aside0.mk ((by rw [hg]; exact Nat.ne_of_lt (blk_lt (g := gb101) (o := .cells #[.int .i64 a0_0, .int .i64 a0_1] 64 (0, 0)) (by (with_reducible repeat (first | refine blk_drewN ?_ _ | refine blk_drew ?_ | refine blk_alloc ?_ _)); exact BK101.out)) : gb101 ≠ gb102)); have n6_ := Aside0.mk ((by rw [hg]; exact Nat.ne_of_gt (blk_lt (g := gb101) (o := .cells #[.int .i64 a0_0, .int .i64 a0_1] 64 (0, 0)) (by (with_reducible repeat (first | refine blk_drewN ?_ _ | refine blk_drew ?_ | refine blk_alloc ?_ _)); exact BK101.out)) : gb102 ≠ gb101)); clear BK101; clear HB; have BK101 := n0_; have HB := n1_; have BK102 := n2_; have GW102 := n3_; have GE102 := n4_; have NB101_102 := n5_; have NB102_101 := n6_; clear n0_ n1_ n2_ n3_ n4_ n5_ n6_; clear hb hbox hg; have hnb17 := NB101_102.out; have hnc17 := NB102_101.out; have hcz18_0 : w16.cell? ⟨gb101, 0, none⟩ = some (.int .i64 a0_0) := (blk_cell BK101.out 0).trans rfl; have hcz18_1 : w16.cell? ⟨gb101, 1, none⟩ = some (.int .i64 a0_1) := (blk_cell BK101.out 1).trans rfl; have hfz18_0 := blk_frozen BK101.out 0; have hfz18_1 := blk_frozen BK101.out 1; have hcz19_0 : w16.cell? ⟨gb102, 0, none⟩ = some (.int .i64 a1_0) := (blk_cell BK102.out 0).trans rfl; have hcz19_1 : w16.cell? ⟨gb102, 1, none⟩ = some (.int .i64 a1_1) := (blk_cell BK102.out 1).trans rfl; have hfz19_0 := blk_frozen BK102.out 0; have hfz19_1 := blk_frozen BK102.out 1))
    go_ret
    exact ⟨by first | rfl | (simp [errW_none, errW_some] <;> rfl) | (simp [*, errW_none, errW_some] <;> rfl), by repeat (first | (with_reducible first | exact HB.out | apply below_alloc | apply pw_below_drewN | apply below_drew1 | refine below_set ?_ GE101.out | refine below_set ?_ GE102.out) | exact HB.out)⟩
end Go.Proofs.Yteeghncofacmhaa.Q
end
section
namespace Go.Proofs.Yteeghncofacmhaa.Q
open Go.RowKit Go.Proofs.YteeghncofacmhaaW.PrintWords Go.Proofs.YteeghncofacmhaaW.PrintLast Go.Proofs.YteeghncofacmhaaW.PrintMore
attribute [local go_sem] max2_int min2_int max_two min_two max_three min_three max_four min_four   -- for this text's walks alone
set_option linter.unusedVariables false
set_option linter.unusedSimpArgs false
/-! ### laws_eqChordS: function 15 -/
def laws_eqChordS.l0 : Nat → List (S64) → List (S64) → Int → Option (Bool)
  | 0, _, _, _ => none
  | k + 1, x0, x1, x5 => if x5 < (x0.length : Int) then (if 0 ≤ x5 then (if x5 < (x1.length : Int) then ((laws_eqChord.f ((rd_T64 x0 x5).f0) ((rd_T64 x0 x5).f1) ((rd_T64 x1 x5).f0) ((rd_T64 x1 x5).f1)).bind fun t103 => (if t103 = true then (laws_eqChordS.l0 k x0 x1 (wrap64 (x5 + 1))) else (some false))) else (none)) else (none)) else (some true)
def laws_eqChordS.f (k : Nat) (l0 : List (S64)) (l1 : List (S64)) : Option (Bool) := if (l0.length : Int) = (l1.length : Int) then (laws_eqChordS.l0 k l0 l1 0) else (some false)
def laws_eqChordS.T6 : Bool × List (List Nat × List Nat) := (true, [([], []), ([], []), ([0, 1], [0, 1]), ([2], [2]), ([], []), ([], []), ([4, 5], [4, 5]), ([6], [6]), ([3, 7], [3, 7]), ([8], [8])])
def laws_eqChordS.B6 : List Nat := [0, 0, 3, 7, 0, 0, 48, 112, 255, 511]
theorem laws_eqChordS.tab6 : rtab .any (opsOf Try.f15 6) = laws_eqChordS.T6 := by kernel_rfl
theorem laws_eqChordS.bits6 : waitsOk laws_eqChordS.T6.2 laws_eqChordS.B6 = true := by kernel_rfl
set_option maxHeartbeats 8000000 in
set_option maxRecDepth 100000 in
theorem laws_eqChordS.calls (k : Nat) (A0 : Option Addr) (c0 : Nat) (l0 : List (S64)) (A1 : Option Addr) (c1 : Nat) (l1 : List (S64)) (r : Bool) (w : World) (hr0 : Kd.C k64 w A0 l0.length l0) (hc0 : l0.length ≤ c0) (hr1 : Kd.C k64 w A1 l1.length l1) (hc1 : l1.length ≤ c1) (h : laws_eqChordS.f k l0 l1 = some r) :
    Calls Try.prog 15 #[.slice A0 l0.length c0, .slice A1 l1.length c1] w fun e w' => e = .returned (.bool r) ∧ Below w.heap.size w w' := by
  have hu64 := Try.underlying64
  have HR0 := Aside0.mk hr0
  have HC0 := Aside0.mk hc0
  clear hr0 hc0
  have HR1 := Aside0.mk hr1
  have HC1 := Aside0.mk hc1
  clear hr1 hc1
  have HB := Aside0.mk (Below.refl w.heap.size w)
  have H : (if (l0.length : Int) = (l1.length : Int) then (laws_eqChordS.l0 k l0 l1 0) else (some false)) = some r := h
  clear h
  by_cases c3 : (l0.length : Int) = (l1.length : Int)
  · rw [if_pos c3] at H
    have c3b0 : ((l0.length : Int) == (l1.length : Int)) = true := beq_iff_eq.mpr c3
    have c3b1 : ((l0.length : Int) != (l1.length : Int)) = false := bne_eq_false_iff_eq.mpr c3
    have c3b2 : (l0.length == l1.length) = true := by first | simpa using c3 | (simp at c3 ⊢; omega)
    clear c3
    have H' := Aside0.mk H
    clear H
    go_enter Try.func15, Try.ntmps15
    go_wp2
    go_loopg [5] k (fun kq v5 w' => ∃ (x5_1 : Int), v5 = .int .i64 x5_1 ∧ Aside0 (laws_eqChordS.l0 kq l0 l1 x5_1 = some r) ∧ Aside0 (kq ≤ k) ∧ Aside0 (Below w.heap.size w w'))
    case atStart => exact ⟨(0), (by first | rfl | (simp; done) | (simp [*]; done)), H', ⟨Nat.le_refl _⟩, ⟨by repeat (first | (with_reducible first | exact HB.out | apply below_alloc | apply pw_below_drewN | apply below_drew1) | exact HB.out)⟩⟩
    case round =>
      clear H'
      try clear c1
      try clear p2
      try clear c3
      try clear c3b0
      try clear c3b1
      try clear c3b2
      obtain ⟨x5_1, rfl, HA, HK1, HB⟩ := hrel
      cases gk with
      | zero => exact absurd HA.out (by simp [laws_eqChordS.l0])
      | succ k1 =>
        have H := HA.out
        clear HA
        simp only [laws_eqChordS.l0] at H
        by_cases c4 : x5_1 < (l0.length : Int)
        · rw [if_pos c4] at H
          have c4b0 : decide (x5_1 < (l0.length : Int)) = true := decide_eq_true c4
          clear c4
          by_cases c5 : 0 ≤ x5_1
          · rw [if_pos c5] at H
            have c5b0 : decide (0 ≤ x5_1) = true := decide_eq_true c5
            clear c5
            by_cases c6 : x5_1 < (l1.length : Int)
            · rw [if_pos c6] at H
              have c6b0 : decide (x5_1 < (l1.length : Int)) = true := decide_eq_true c6
              clear c6
              replace H := Option.bind_eq_some_iff.mp H
              obtain ⟨t103, A70, H⟩ := H
              replace H : (if t103 = true then (laws_eqChordS.l0 k1 l0 l1 (wrap64 (x5_1 + 1))) else (some false)) = some r := H
              have A7 := Aside0.mk A70
              clear A70
              by_cases c8 : t103 = true
              · subst c8
                have H1 : (laws_eqChordS.l0 k1 l0 l1 (wrap64 (x5_1 + 1))) = some r := by rw [if_pos rfl] at H; exact H
                clear H
                have H := H1
                clear H1
                have H' := Aside0.mk H
                clear H
                try go_wp2
                have n0_ := Aside0.mk (below_drew1 HB.out)
                clear HB
                have HB := n0_
                clear n0_
                have p101 : 0 ≤ (x5_1 : Int) := of_decide_eq_true (by first | (with_reducible assumption) | assumption)
                have q101 : x5_1 < (l0.length : Int) := of_decide_eq_true (by first | (with_reducible assumption) | assumption)
                obtain ⟨ad101, e101, hx101_0, hx101_1⟩ := at_T64 HR0.out x5_1 p101 q101
                have hw101_1 := hx101_1
                have hw101_0 := hx101_0
                cases e101
                try replace hx101_0 := (HB.out.cell (World.block_lt_of_cell? w _ hx101_0)).trans hx101_0
                try replace hx101_1 := (HB.out.cell (World.block_lt_of_cell? w _ hx101_1)).trans hx101_1
                replace p101 := eq_true p101
                replace q101 := eq_true q101
                have p102 : 0 ≤ (x5_1 : Int) := of_decide_eq_true (by first | (with_reducible assumption) | assumption)
                have q102 : x5_1 < (l1.length : Int) := of_decide_eq_true (by first | (with_reducible assumption) | assumption)
                obtain ⟨ad102, e102, hx102_0, hx102_1⟩ := at_T64 HR1.out x5_1 p102 q102
                have hw102_1 := hx102_1
                have hw102_0 := hx102_0
                cases e102
                try replace hx102_0 := (HB.out.cell (World.block_lt_of_cell? w _ hx102_0)).trans hx102_0
                try replace hx102_1 := (HB.out.cell (World.block_lt_of_cell? w _ hx102_1)).trans hx102_1
                replace p102 := eq_true p102
                replace q102 := eq_true q102
                refine start_ (n := 10) (S := fun w' => w'.cell? (ad101.add ((x5_1).toNat * 2)) = some (.int .i64 ((rd_T64 l0 x5_1).f0)) ∧ w'.cell? ⟨(ad101.add ((x5_1).toNat * 2)).block, (ad101.add ((x5_1).toNat * 2)).off + 1, none⟩ = some (.int .i64 ((rd_T64 l0 x5_1).f1)) ∧ w'.cell? (ad102.add ((x5_1).toNat * 2)) = some (.int .i64 ((rd_T64 l1 x5_1).f0)) ∧ w'.cell? ⟨(ad102.add ((x5_1).toNat * 2)).block, (ad102.add ((x5_1).toNat * 2)).off + 1, none⟩ = some (.int .i64 ((rd_T64 l1 x5_1).f1))) (ds := []) #[false, false, false, false, false, false, false, false, false, false] (by kernel_rfl) rfl rfl ⟨((HB.out.cell (World.block_lt_of_cell? w _ hw101_0)).trans hw101_0), ((HB.out.cell (World.block_lt_of_cell? w _ hw101_1)).trans hw101_1), ((HB.out.cell (World.block_lt_of_cell? w _ hw102_0)).trans hw102_0), ((HB.out.cell (World.block_lt_of_cell? w _ hw102_1)).trans hw102_1)⟩ (fun hHeld => ?_); refine with_tabW laws_eqChordS.tab6 laws_eqChordS.bits6 (fun HT_ HW_ => ?_)
                generalize wr.drew = w9 at HB hx101_0 hx101_1 hx102_0 hx102_1 hHeld ⊢
                refine pure_ (i := 0) (N := some 17) (v := ?_) (a' := ?_) #[true, false, false, false, false, false, false, false, false, false] rfl rfl (any_of HT_.out (by kernel_rfl)) (fun _ _ _ h => h) (Or.inl ⟨by rfl, ?_⟩) ?_ ?_
                rotate_left
                · intro w'
                  go_simp
                  with_reducible rfl
                rotate_left
                · simp only [Act.put, List.setIfInBounds_toArray, List.set_cons_zero, List.set_cons_succ, i64_w, i32_w]
                  rfl
                refine pure_ (i := 1) (N := some 18) (v := ?_) (a' := ?_) #[true, true, false, false, false, false, false, false, false, false] rfl rfl (any_of HT_.out (by kernel_rfl)) (fun _ _ _ h => h) (Or.inl ⟨by rfl, ?_⟩) ?_ ?_
                rotate_left
                · intro w'
                  go_simp
                  with_reducible rfl
                rotate_left
                · simp only [Act.put, List.setIfInBounds_toArray, List.set_cons_zero, List.set_cons_succ, i64_w, i32_w]
                  rfl
                refine pure_ (i := 2) (N := some 19) (v := ?_) (a' := ?_) #[true, true, true, false, false, false, false, false, false, false] rfl rfl (any_of HT_.out (by kernel_rfl)) (fun _ _ _ h => h) (Or.inl ⟨by rfl, ?_⟩) ?_ ?_
                rotate_left
                · intro w'
                  go_simp
                  with_reducible rfl
                rotate_left
                · simp only [Act.put, List.setIfInBounds_toArray, List.set_cons_zero, List.set_cons_succ, i64_w, i32_w]
                  rfl
                refine pure_ (i := 4) (N := some 21) (v := ?_) (a' := ?_) #[true, true, true, false, true, false, false, false, false, false] rfl rfl (any_of HT_.out (by kernel_rfl)) (fun _ _ _ h => h) (Or.inl ⟨by rfl, ?_⟩) ?_ ?_
                rotate_left
                · intro w'
                  go_simp
                  with_reducible rfl
                rotate_left
                · simp only [Act.put, List.setIfInBounds_toArray, List.set_cons_zero, List.set_cons_succ, i64_w, i32_w]
                  rfl
                refine pure_ (i := 5) (N := some 22) (v := ?_) (a' := ?_) #[true, true, true, false, true, true, false, false, false, false] rfl rfl (any_of HT_.out (by kernel_rfl)) (fun _ _ _ h => h) (Or.inl ⟨by rfl, ?_⟩) ?_ ?_
                rotate_left
                · intro w'
                  go_simp
                  with_reducible rfl
                rotate_left
                · simp only [Act.put, List.setIfInBounds_toArray, List.set_cons_zero, List.set_cons_succ, i64_w, i32_w]
                  rfl
                refine pure_ (i := 6) (N := some 23) (v := ?_) (a' := ?_) #[true, true, true, false, true, true, true, false, false, false] rfl rfl (any_of HT_.out (by kernel_rfl)) (fun _ _ _ h => h) (Or.inl ⟨by rfl, ?_⟩) ?_ ?_
                rotate_left
                · intro w'
                  go_simp
                  with_reducible rfl
                rotate_left
                · simp only [Act.put, List.setIfInBounds_toArray, List.set_cons_zero, List.set_cons_succ, i64_w, i32_w]
                  rfl
                refine take_ (i := 3) (N := some 20) (v := ?_) (a' := ?_) #[true, true, true, true, true, true, true, false, false, false] rfl rfl (take_ofW HT_.out HW_.out (by kernel_rfl)) (fun _ _ _ h => h) (Or.inl ⟨by rfl, ?_⟩) hHeld ?_ ?_
                rotate_left
                · rintro w' ⟨s0, s1, s2, s3⟩
                  go_simp
                  with_reducible rfl
                rotate_left
                · simp only [Act.put, List.setIfInBounds_toArray, List.set_cons_zero, List.set_cons_succ, i64_w, i32_w]
                  rfl
                refine take_ (i := 7) (N := some 24) (v := ?_) (a' := ?_) #[true, true, true, true, true, true, true, true, false, false] rfl rfl (take_ofW HT_.out HW_.out (by kernel_rfl)) (fun _ _ _ h => h) (Or.inl ⟨by rfl, ?_⟩) hHeld ?_ ?_
                rotate_left
                · rintro w' ⟨s0, s1, s2, s3⟩
                  go_simp
                  with_reducible rfl
                rotate_left
                · simp only [Act.put, List.setIfInBounds_toArray, List.set_cons_zero, List.set_cons_succ, i64_w, i32_w]
                  rfl
                refine one_ (i := 8) (N := some 25) #[true, true, true, true, true, true, true, true, true, false] rfl rfl (one_of HT_.out (by kernel_rfl)) (by decide) (fun K hK => ?_)
                refine goes_ Try.func60 (by kernel_rfl) rfl #[.agg #[.int .i64 ((rd_T64 l0 x5_1).f0), .int .i64 ((rd_T64 l0 x5_1).f1)], .agg #[.int .i64 ((rd_T64 l1 x5_1).f0), .int .i64 ((rd_T64 l1 x5_1).f1)]] (by rfl) rfl rfl (by (try simp only [List.map_toArray, List.map_cons, List.map_nil]); first | done | rfl | (simp only [List.length_drop, List.length_take]; rfl)) ?_
                with_reducible refine (laws_eqChord.calls ((rd_T64 l0 x5_1).f0) ((rd_T64 l0 x5_1).f1) ((rd_T64 l1 x5_1).f0) ((rd_T64 l1 x5_1).f1) true _ A7.out).mono ?_
                rintro e w10 ⟨rfl, hb⟩
                refine ⟨_, rfl, ?_⟩
                have n0_ := Aside0.mk (below_step (by repeat (first | (with_reducible first | exact HB.out | apply below_alloc | apply pw_below_drewN | apply below_drew1) | exact HB.out)) hb)
                clear HB
                have HB := n0_
                clear n0_
                (try clear hb)
                (try clear hb2)
                (try clear hk)
                (try clear hi)
                refine hK.out _ _ ⟨((HB.out.cell (World.block_lt_of_cell? w _ hw101_0)).trans hw101_0), ((HB.out.cell (World.block_lt_of_cell? w _ hw101_1)).trans hw101_1), ((HB.out.cell (World.block_lt_of_cell? w _ hw102_0)).trans hw102_0), ((HB.out.cell (World.block_lt_of_cell? w _ hw102_1)).trans hw102_1)⟩ (fun hHeld => ?_)
                clear hK K
                refine norm_ (a' := ?_) ?_ ?_
                rotate_left
                · show Act.put _ (some 25) _ = _
                  simp only [Act.put, List.setIfInBounds_toArray, List.set_cons_zero, List.set_cons_succ, i64_w, i32_w]
                  rfl
                refine pure_ (i := 9) (N := some 26) (v := ?_) (a' := ?_) #[true, true, true, true, true, true, true, true, true, true] rfl rfl (any_of HT_.out (by kernel_rfl)) (fun _ _ _ h => h) (Or.inl ⟨by rfl, ?_⟩) ?_ ?_
                rotate_left
                · intro w'
                  go_simp
                  with_reducible rfl
                rotate_left
                · simp only [Act.put, List.setIfInBounds_toArray, List.set_cons_zero, List.set_cons_succ, i64_w, i32_w]
                  rfl
                refine done_ (done_of HT_.out (by kernel_rfl)) ?_
                try go_wp2
                go_roundg k1
                case measure => have := HK1.out; omega
                case rel => exact ⟨(wrap64 (x5_1 + 1)), (by first | rfl | (simp; done) | (simp [*]; done)), H', ⟨by have := HK1.out; omega⟩, ⟨by repeat (first | (with_reducible first | exact HB.out | apply below_alloc | apply pw_below_drewN | apply below_drew1) | exact HB.out)⟩⟩
              · replace c8 := Bool.eq_false_iff.mpr c8
                subst c8
                have H1 : (some false) = some r := by rw [if_neg (show ¬ (false = true) by decide)] at H; exact H
                clear H
                have H := H1
                clear H1
                obtain rfl := Option.some.inj H
                try go_wp2
                have n0_ := Aside0.mk (below_drew1 HB.out)
                clear HB
                have HB := n0_
                clear n0_
                have p101 : 0 ≤ (x5_1 : Int) := of_decide_eq_true (by first | (with_reducible assumption) | assumption)
                have q101 : x5_1 < (l0.length : Int) := of_decide_eq_true (by first | (with_reducible assumption) | assumption)
                obtain ⟨ad101, e101, hx101_0, hx101_1⟩ := at_T64 HR0.out x5_1 p101 q101
                have hw101_1 := hx101_1
                have hw101_0 := hx101_0
                cases e101
                try replace hx101_0 := (HB.out.cell (World.block_lt_of_cell? w _ hx101_0)).trans hx101_0
                try replace hx101_1 := (HB.out.cell (World.block_lt_of_cell? w _ hx101_1)).trans hx101_1
                replace p101 := eq_true p101
                replace q101 := eq_true q101
                have p102 : 0 ≤ (x5_1 : Int) := of_decide_eq_true (by first | (with_reducible assumption) | assumption)
                have q102 : x5_1 < (l1.length : Int) := of_decide_eq_true (by first | (with_reducible assumption) | assumption)
                obtain ⟨ad102, e102, hx102_0, hx102_1⟩ := at_T64 HR1.out x5_1 p102 q102
                have hw102_1 := hx102_1
                have hw102_0 := hx102_0
                cases e102
                try replace hx102_0 := (HB.out.cell (World.block_lt_of_cell? w _ hx102_0)).trans hx102_0
                try replace hx102_1 := (HB.out.cell (World.block_lt_of_cell? w _ hx102_1)).trans hx102_1
                replace p102 := eq_true p102
                replace q102 := eq_true q102
                refine start_ (n := 10) (S := fun w' => w'.cell? (ad101.add ((x5_1).toNat * 2)) = some (.int .i64 ((rd_T64 l0 x5_1).f0)) ∧ w'.cell? ⟨(ad101.add ((x5_1).toNat * 2)).block, (ad101.add ((x5_1).toNat * 2)).off + 1, none⟩ = some (.int .i64 ((rd_T64 l0 x5_1).f1)) ∧ w'.cell? (ad102.add ((x5_1).toNat * 2)) = some (.int .i64 ((rd_T64 l1 x5_1).f0)) ∧ w'.cell? ⟨(ad102.add ((x5_1).toNat * 2)).block, (ad102.add ((x5_1).toNat * 2)).off + 1, none⟩ = some (.int .i64 ((rd_T64 l1 x5_1).f1))) (ds := []) #[false, false, false, false, false, false, false, false, false, false] (by kernel_rfl) rfl rfl ⟨((HB.out.cell (World.block_lt_of_cell? w _ hw101_0)).trans hw101_0), ((HB.out.cell (World.block_lt_of_cell? w _ hw101_1)).trans hw101_1), ((HB.out.cell (World.block_lt_of_cell? w _ hw102_0)).trans hw102_0), ((HB.out.cell (World.block_lt_of_cell? w _ hw102_1)).trans hw102_1)⟩ (fun hHeld => ?_); refine with_tabW laws_eqChordS.tab6 laws_eqChordS.bits6 (fun HT_ HW_ => ?_)
                generalize wr.drew = w11 at HB hx101_0 hx101_1 hx102_0 hx102_1 hHeld ⊢
                refine pure_ (i := 0) (N := some 17) (v := ?_) (a' := ?_) #[true, false, false, false, false, false, false, false, false, false] rfl rfl (any_of HT_.out (by kernel_rfl)) (fun _ _ _ h => h) (Or.inl ⟨by rfl, ?_⟩) ?_ ?_
                rotate_left
                · intro w'
                  go_simp
                  with_reducible rfl
                rotate_left
                · simp only [Act.put, List.setIfInBounds_toArray, List.set_cons_zero, List.set_cons_succ, i64_w, i32_w]
                  rfl
                refine pure_ (i := 1) (N := some 18) (v := ?_) (a' := ?_) #[true, true, false, false, false, false, false, false, false, false] rfl rfl (any_of HT_.out (by kernel_rfl)) (fun _ _ _ h => h) (Or.inl ⟨by rfl, ?_⟩) ?_ ?_
                rotate_left
                · intro w'
                  go_simp
                  with_reducible rfl
                rotate_left
                · simp only [Act.put, List.setIfInBounds_toArray, List.set_cons_zero, List.set_cons_succ, i64_w, i32_w]
                  rfl
                refine pure_ (i := 2) (N := some 19) (v := ?_) (a' := ?_) #[true, true, true, false, false, false, false, false, false, false] rfl rfl (any_of HT_.out (by kernel_rfl)) (fun _ _ _ h => h) (Or.inl ⟨by rfl, ?_⟩) ?_ ?_
                rotate_left
                · intro w'
                  go_simp
                  with_reducible rfl
                rotate_left
                · simp only [Act.put, List.setIfInBounds_toArray, List.set_cons_zero, List.set_cons_succ, i64_w, i32_w]
                  rfl
                refine pure_ (i := 4) (N := some 21) (v := ?_) (a' := ?_) #[true, true, true, false, true, false, false, false, false, false] rfl rfl (any_of HT_.out (by kernel_rfl)) (fun _ _ _ h => h) (Or.inl ⟨by rfl, ?_⟩) ?_ ?_
                rotate_left
                · intro w'
                  go_simp
                  with_reducible rfl
                rotate_left
                · simp only [Act.put, List.setIfInBounds_toArray, List.set_cons_zero, List.set_cons_succ, i64_w, i32_w]
                  rfl
                refine pure_ (i := 5) (N := some 22) (v := ?_) (a' := ?_) #[true, true, true, false, true, true, false, false, false, false] rfl rfl (any_of HT_.out (by kernel_rfl)) (fun _ _ _ h => h) (Or.inl ⟨by rfl, ?_⟩) ?_ ?_
                rotate_left
                · intro w'
                  go_simp
                  with_reducible rfl
                rotate_left
                · simp only [Act.put, List.setIfInBounds_toArray, List.set_cons_zero, List.set_cons_succ, i64_w, i32_w]
                  rfl
                refine pure_ (i := 6) (N := some 23) (v := ?_) (a' := ?_) #[true, true, true, false, true, true, true, false, false, false] rfl rfl (any_of HT_.out (by kernel_rfl)) (fun _ _ _ h => h) (Or.inl ⟨by rfl, ?_⟩) ?_ ?_
                rotate_left
                · intro w'
                  go_simp
                  with_reducible rfl
                rotate_left
                · simp only [Act.put, List.setIfInBounds_toArray, List.set_cons_zero, List.set_cons_succ, i64_w, i32_w]
                  rfl
                refine take_ (i := 3) (N := some 20) (v := ?_) (a' := ?_) #[true, true, true, true, true, true, true, false, false, false] rfl rfl (take_ofW HT_.out HW_.out (by kernel_rfl)) (fun _ _ _ h => h) (Or.inl ⟨by rfl, ?_⟩) hHeld ?_ ?_
                rotate_left
                · rintro w' ⟨s0, s1, s2, s3⟩
                  go_simp
                  with_reducible rfl
                rotate_left
                · simp only [Act.put, List.setIfInBounds_toArray, List.set_cons_zero, List.set_cons_succ, i64_w, i32_w]
                  rfl
                refine take_ (i := 7) (N := some 24) (v := ?_) (a' := ?_) #[true, true, true, true, true, true, true, true, false, false] rfl rfl (take_ofW HT_.out HW_.out (by kernel_rfl)) (fun _ _ _ h => h) (Or.inl ⟨by rfl, ?_⟩) hHeld ?_ ?_
                rotate_left
                · rintro w' ⟨s0, s1, s2, s3⟩
                  go_simp
                  with_reducible rfl
                rotate_left
                · simp only [Act.put, List.setIfInBounds_toArray, List.set_cons_zero, List.set_cons_succ, i64_w, i32_w]
                  rfl
                refine one_ (i := 8) (N := some 25) #[true, true, true, true, true, true, true, true, true, false] rfl rfl (one_of HT_.out (by kernel_rfl)) (by decide) (fun K hK => ?_)
                refine goes_ Try.func60 (by kernel_rfl) rfl #[.agg #[.int .i64 ((rd_T64 l0 x5_1).f0), .int .i64 ((rd_T64 l0 x5_1).f1)], .agg #[.int .i64 ((rd_T64 l1 x5_1).f0), .int .i64 ((rd_T64 l1 x5_1).f1)]] (by rfl) rfl rfl (by (try simp only [List.map_toArray, List.map_cons, List.map_nil]); first | done | rfl | (simp only [List.length_drop, List.length_take]; rfl)) ?_
                with_reducible refine (laws_eqChord.calls ((rd_T64 l0 x5_1).f0) ((rd_T64 l0 x5_1).f1) ((rd_T64 l1 x5_1).f0) ((rd_T64 l1 x5_1).f1) false _ A7.out).mono ?_
                rintro e w12 ⟨rfl, hb⟩
                refine ⟨_, rfl, ?_⟩
                have n0_ := Aside0.mk (below_step (by repeat (first | (with_reducible first | exact HB.out | apply below_alloc | apply pw_below_drewN | apply below_drew1) | exact HB.out)) hb)
                clear HB
                have HB := n0_
                clear n0_
                (try clear hb)
                (try clear hb2)
                (try clear hk)
                (try clear hi)
                refine hK.out _ _ ⟨((HB.out.cell (World.block_lt_of_cell? w _ hw101_0)).trans hw101_0), ((HB.out.cell (World.block_lt_of_cell? w _ hw101_1)).trans hw101_1), ((HB.out.cell (World.block_lt_of_cell? w _ hw102_0)).trans hw102_0), ((HB.out.cell (World.block_lt_of_cell? w _ hw102_1)).trans hw102_1)⟩ (fun hHeld => ?_)
                clear hK K
                refine norm_ (a' := ?_) ?_ ?_
                rotate_left
                · show Act.put _ (some 25) _ = _
                  simp only [Act.put, List.setIfInBounds_toArray, List.set_cons_zero, List.set_cons_succ, i64_w, i32_w]
                  rfl
                refine pure_ (i := 9) (N := some 26) (v := ?_) (a' := ?_) #[true, true, true, true, true, true, true, true, true, true] rfl rfl (any_of HT_.out (by kernel_rfl)) (fun _ _ _ h => h) (Or.inl ⟨by rfl, ?_⟩) ?_ ?_
                rotate_left
                · intro w'
                  go_simp
                  with_reducible rfl
                rotate_left
                · simp only [Act.put, List.setIfInBounds_toArray, List.set_cons_zero, List.set_cons_succ, i64_w, i32_w]
                  rfl
                refine done_ (done_of HT_.out (by kernel_rfl)) ?_
                try go_wp2
                go_ret
                exact ⟨by first | rfl | (simp [errW_none, errW_some] <;> rfl) | (simp [*, errW_none, errW_some] <;> rfl), by repeat (first | (with_reducible first | exact HB.out | apply below_alloc | apply pw_below_drewN | apply below_drew1) | exact HB.out)⟩
            · rw [if_neg c6] at H
              exact absurd H (by simp)
          · rw [if_neg c5] at H
            exact absurd H (by simp)
        · rw [if_neg c4] at H
          have c4b0 : decide (x5_1 < (l0.length : Int)) = false := decide_eq_false c4
          clear c4
          obtain rfl := Option.some.inj H
          go_wp2
          go_ret
          exact ⟨by first | rfl | (simp [errW_none, errW_some] <;> rfl) | (simp [*, errW_none, errW_some] <;> rfl), by repeat (first | (with_reducible first | exact HB.out | apply below_alloc | apply pw_below_drewN | apply below_drew1) | exact HB.out)⟩
  · rw [if_neg c3] at H
    have c3b0 : ((l0.length : Int) == (l1.length : Int)) = false := beq_eq_false_iff_ne.mpr c3
    have c3b1 : ((l0.length : Int) != (l1.length : Int)) = true := bne_iff_ne.mpr c3
    have c3b2 : (l0.length == l1.length) = false := by first | simpa using c3 | (simp at c3 ⊢; omega)
    obtain rfl := Option.some.inj H
    go_enter Try.func15, Try.ntmps15
    go_wp2
    go_ret
    exact ⟨by first | rfl | (simp [errW_none, errW_some] <;> rfl) | (simp [*, errW_none, errW_some] <;> rfl), by repeat (first | (with_reducible first | exact HB.out | apply below_alloc | apply pw_below_drewN | apply below_drew1) | exact HB.out)⟩
end Go.Proofs.Yteeghncofacmhaa.Q
end
section
namespace Go.Proofs.Yteeghncofacmhaa.Q
open Go.RowKit Go.Proofs.YteeghncofacmhaaW.PrintWords Go.Proofs.YteeghncofacmhaaW.PrintLast Go.Proofs.YteeghncofacmhaaW.PrintMore
attribute [local go_sem] max2_int min2_int max_two min_two max_three min_three max_four min_four   -- for this text's walks alone
set_option linter.unusedVariables false
set_option linter.unusedSimpArgs false
/-! ### laws_markChordS: function 16 -/
def laws_markChordS.l0 : Nat → List (S64) → Int → Int → Option (Int × (List (S64)))
  | 0, _, _, _ => none
  | k + 1, x0, x1, x5 => if x5 < (x0.length : Int) then (if 0 ≤ x5 then ((some (x0.set (x5 : Int).toNat (⟨x1, (rd_T64 x0 x5).f1⟩ : S64) : List (S64))).bind fun y101 => (laws_markChordS.l0 k (y101.set (x5 : Int).toNat (⟨(rd_T64 y101 x5).f0, wrap64 (x1 + 1)⟩ : S64)) (wrap64 ((wrap64 (x1 + 1)) + 1)) (wrap64 (x5 + 1)))) else (none)) else (some (x1, x0))
def laws_markChordS.f (k : Nat) (l0 : List (S64)) (a1 : Int) : Option (Int × (List (S64))) := laws_markChordS.l0 k l0 a1 0
set_option maxHeartbeats 8000000 in
set_option maxRecDepth 100000 in
theorem laws_markChordS.calls (k : Nat) (P0_ : Nat → Prop) (u9000_ : Value) (l0 : List (S64)) (a1 : Int) (r1 : Int) (r2 : List (S64)) (w0 w : World) (hB : Below w0.heap.size w0 w) (ho0 : Kd.R k64 64 w w0.heap.size P0_ u9000_ l0) (h : laws_markChordS.f k l0 a1 = some (r1, r2)) :
    Calls Try.prog 16 #[u9000_, .int .i64 a1] w fun e w' => e = .returned (.int .i64 r1) ∧ Kd.R k64 64 w' w0.heap.size (fun k_ => (P0_ k_ ∨ w.heap.size ≤ k_)) u9000_ r2 ∧ Below w0.heap.size w0 w' ∧ Kept w w' (fun k_ => P0_ k_) := by
  have HO0 := Aside0.mk (show Kd.R k64 64 w w0.heap.size (fun k_ => (P0_ k_ ∨ w.heap.size ≤ k_)) u9000_ l0 from Kd.R_mono ho0 (fun k_ hk => (.inl hk)))
  have HK := Aside0.mk (Kept.refl w (fun k_ => P0_ k_))
  have HW0 := Aside0.mk hB.size
  have HB := Aside0.mk hB
  clear hB
  have H : (laws_markChordS.l0 k l0 a1 0) = some (r1, r2) := h
  clear h
  have H' := Aside0.mk H
  clear H
  go_enter Try.func16, Try.ntmps16
  go_wp2
  go_loopg [1, 5] k (fun kq v1 v5 w' => ∃ (x0_1 : List (S64)) (x1_1 : Int) (x5_1 : Int), v1 = .int .i64 x1_1 ∧ v5 = .int .i64 x5_1 ∧ Aside0 (laws_markChordS.l0 kq x0_1 x1_1 x5_1 = some (r1, r2)) ∧ Aside0 (kq ≤ k) ∧ Aside0 (Kd.R k64 64 w' w0.heap.size (fun k_ => (P0_ k_ ∨ w.heap.size ≤ k_)) u9000_ x0_1) ∧ Aside0 (Kept w w' (fun k_ => P0_ k_)) ∧ Aside0 (Below w0.heap.size w0 w'))
  case atStart => exact ⟨(l0), (a1), (0), (by first | rfl | (simp; done) | (simp [*]; done)), (by first | rfl | (simp; done) | (simp [*]; done)), H', ⟨Nat.le_refl _⟩, ⟨by (with_reducible repeat (first | apply Kd.R_alloc | apply Kd.R_drewN | apply Kd.R_drew)); exact HO0.out⟩, ⟨by repeat (first | (with_reducible first | exact HK.out | apply Kept.alloc | apply Kept.drewN | apply Kept.drew) | exact HK.out)⟩, ⟨by repeat (first | (with_reducible first | exact HB.out | apply below_alloc | apply pw_below_drewN | apply below_drew1) | exact HB.out)⟩⟩
  case round =>
    clear H'
    try clear c1
    try clear p2
    obtain ⟨x0_1, x1_1, x5_1, rfl, rfl, HA, HK1, HO_0, HK, HB⟩ := hrel
    cases gk with
    | zero => exact absurd HA.out (by simp [laws_markChordS.l0])
    | succ k1 =>
      have H := HA.out
      clear HA
      simp only [laws_markChordS.l0] at H
      by_cases c3 : x5_1 < (x0_1.length : Int)
      · rw [if_pos c3] at H
        have c3b0 : decide (x5_1 < (x0_1.length : Int)) = true := decide_eq_true c3
        clear c3
        by_cases c4 : 0 ≤ x5_1
        · rw [if_pos c4] at H
          have c4b0 : decide (0 ≤ x5_1) = true := decide_eq_true c4
          clear c4
          obtain ⟨y101, hy101⟩ : ∃ y_ : List (S64), y_ = (x0_1.set (x5_1 : Int).toNat (⟨x1_1, (rd_T64 x0_1 x5_1).f1⟩ : S64)) := ⟨_, rfl⟩
          replace H : (laws_markChordS.l0 k1 (y101.set (x5_1 : Int).toNat (⟨(rd_T64 y101 x5_1).f0, wrap64 (x1_1 + 1)⟩ : S64)) (wrap64 ((wrap64 (x1_1 + 1)) + 1)) (wrap64 (x5_1 + 1))) = some (r1, r2) := by first | (rw [hy101]; with_reducible exact H) | (have H2_ := (Option.bind_some _ _).symm.trans H; rw [hy101]; with_reducible exact H2_) | (have H2_ := (Option.bind_some _ _).symm.trans H; with_reducible exact H2_) | with_reducible exact H | (rw [hy101]; exact H) | exact H
          have Ny101 := Aside0.mk hy101
          clear hy101
          obtain ⟨y102, hy102⟩ : ∃ y_ : List (S64), y_ = (y101.set (x5_1 : Int).toNat (⟨(rd_T64 y101 x5_1).f0, wrap64 (x1_1 + 1)⟩ : S64)) := ⟨_, rfl⟩
          replace H : (laws_markChordS.l0 k1 y102 (wrap64 ((wrap64 (x1_1 + 1)) + 1)) (wrap64 (x5_1 + 1))) = some (r1, r2) := by first | (rw [hy102]; with_reducible exact H) | (have H2_ := (Option.bind_some _ _).symm.trans H; rw [hy102]; with_reducible exact H2_) | (have H2_ := (Option.bind_some _ _).symm.trans H; with_reducible exact H2_) | with_reducible exact H | (rw [hy102]; exact H) | exact H
          have Ny102 := Aside0.mk hy102
          clear hy102
          have H' := Aside0.mk H
          clear H
          obtain ⟨Ao7, co7, eo7⟩ := Kd.R_slice HO_0.out
          subst eo7
          have p5 : 0 ≤ (x5_1 : Int) := of_decide_eq_true (by first | (with_reducible assumption) | assumption)
          have q5 : (x5_1 : Int) < ((x0_1.length : Int) : Int) := of_decide_eq_true (by first | (with_reducible assumption) | assumption)
          obtain ⟨go5, co5, eo5, gb5, gl5, cl5, HG5⟩ := Kd.R_form HO_0.out (by omega)
          (first | cases eo5 | (injection eo5 with ea_ en_ ec_; (first | subst ea_ | (injection ea_ with ea_; subst ea_)); subst ec_; clear en_))
          have GB5 := Aside0.mk gb5
          have GG5 := Aside0.mk HG5
          clear gb5 gl5 HG5
          have HMgo5 := Aside0.mk (show (P0_ go5 ∨ w.heap.size ≤ go5) from (HO_0.out.1 _ rfl))
          obtain ⟨ce5, hcl5, hM5, hcc5, hfr5⟩ := Kd.R_elem HO_0.out z64 (x5_1 : Int) p5 q5
          obtain rfl := k64_openM hM5
          have hx5_0 : wr.cell? ⟨go5, (x5_1 : Int).toNat * 2, none⟩ = some (.int .i64 ((rd_T64 x0_1 x5_1).f0)) := hcc5 0 _ rfl
          have hx5_1 : wr.cell? ⟨go5, (x5_1 : Int).toNat * 2 + 1, none⟩ = some (.int .i64 ((rd_T64 x0_1 x5_1).f1)) := hcc5 1 _ rfl
          have hf5_0 : wr.frozen? ⟨go5, (x5_1 : Int).toNat * 2, none⟩ = false := hfr5 0
          have hf5_1 : wr.frozen? ⟨go5, (x5_1 : Int).toNat * 2 + 1, none⟩ = false := hfr5 1
          clear hcl5 hcc5 hfr5 hM5
          replace p5 := eq_true p5
          replace q5 := eq_true q5
          have HX8 := Aside0.mk (show Kd.R k64 64 wr w0.heap.size (fun k_ => (P0_ k_ ∨ w.heap.size ≤ k_)) (.slice (some ⟨go5, 0, none⟩) x0_1.length co7) x0_1 from (by (with_reducible repeat (first | apply Kd.R_alloc | apply Kd.R_drewN | apply Kd.R_drew)); exact HO_0.out))
          obtain ⟨ce8, hcl8, hM8, hcc8, hfr8⟩ := Kd.R_elem HX8.out z64 (x5_1 : Int) (of_decide_eq_true (by first | (with_reducible assumption) | assumption)) (by have h_ : (x5_1 : Int) < ((x0_1.length : Int) : Int) := of_decide_eq_true (by first | (with_reducible assumption) | assumption); first | exact h_ | (have e_ := (Kd.R_reads' HO_0.out).1; omega) | simpa using h_)
          obtain rfl := k64_openM hM8
          have HP8 := Kd.R_seg HX8.out (x5_1 : Int) (of_decide_eq_true (by first | (with_reducible assumption) | assumption)) (by have h_ : (x5_1 : Int) < ((x0_1.length : Int) : Int) := of_decide_eq_true (by first | (with_reducible assumption) | assumption); first | exact h_ | (have e_ := (Kd.R_reads' HO_0.out).1; omega) | simpa using h_) (seg := [.int .i64 x1_1]) (j := 0) hcl8 hcc8 (show 1 ≤ 2 from by decide) (x' := (⟨x1_1, (rd_T64 x0_1 x5_1).f1⟩ : S64)) (k64_mkM _ _ _ (⟨x1_1, (rd_T64 x0_1 x5_1).f1⟩ : S64) ) (fun _ hk => hk)
          have hx8_0 := hcc8 0 _ rfl
          (try simp only [show (k64).sz = 2 from rfl, Nat.mul_one, Nat.add_zero] at hx8_0)
          have hf8_0 := hfr8 0
          (try simp only [show (k64).sz = 2 from rfl, Nat.mul_one, Nat.add_zero] at hf8_0)
          clear hcl8 hcc8 hfr8 hM8
          go_wp2_with (first | ((with_reducible refine gate_store (t := 3) (p := 16) rfl ?_); refine store_event (t := 3) (p := 16) (v := ?vo_w9) (w1 := (wr.setCell ⟨go5, (x5_1 : Int).toNat * 2, none⟩ (.int .i64 x1_1))) ?hg ?ho ?hn ?hr ?_; (case ho => rfl); (case hg => rfl); (case hn => rfl); (case hr => first | (go_simp; done) | (go_simp; rfl)); intro w9 hw; have hg : wr.grownBy w9 (some go5) := (by rw [hw]; exact HP8.2); have hp_ : Kd.R k64 64 w9 w0.heap.size (fun k_ => (P0_ k_ ∨ w.heap.size ≤ k_)) (.slice (some ⟨go5, 0, none⟩) x0_1.length co7) y101 := (by rw [hw, Ny101.out]; exact HP8.1); clear HP8; have n0_ := Aside0.mk (hp_); have n1_ := Aside0.mk ((by rw [hw]; exact below_set (HB.out) GB5.out : Below w0.heap.size w0 w9)); have n2_ := Aside0.mk (Kept.of_grown (S := (fun k_ => P0_ k_)) hg (by repeat (first | (with_reducible first | exact HK.out | apply Kept.alloc | apply Kept.drewN | apply Kept.drew) | exact HK.out)) (fun k_ e_ => (HO_0.out.1 k_ e_))); clear HO_0; clear HB; clear HK; have HO_0 := n0_; have HB := n1_; have HK := n2_; clear n0_ n1_ n2_; clear hg hw hp_; have p6 : 0 ≤ (x5_1 : Int) := of_decide_eq_true (by first | (with_reducible assumption) | assumption); have q6 : (x5_1 : Int) < ((x0_1.length : Int) : Int) := of_decide_eq_true (by first | (with_reducible assumption) | assumption); obtain ⟨ce6, hcl6, hM6, hcc6, hfr6⟩ := Kd.R_elem HO_0.out z64 (x5_1 : Int) p6 q6; obtain rfl := k64_openM hM6; have hx6_0 : w9.cell? ⟨go5, (x5_1 : Int).toNat * 2, none⟩ = some (.int .i64 ((rd_T64 y101 x5_1).f0)) := hcc6 0 _ rfl; have hx6_1 : w9.cell? ⟨go5, (x5_1 : Int).toNat * 2 + 1, none⟩ = some (.int .i64 ((rd_T64 y101 x5_1).f1)) := hcc6 1 _ rfl; have hf6_0 : w9.frozen? ⟨go5, (x5_1 : Int).toNat * 2, none⟩ = false := hfr6 0; have hf6_1 : w9.frozen? ⟨go5, (x5_1 : Int).toNat * 2 + 1, none⟩ = false := hfr6 1; clear hcl6 hcc6 hfr6 hM6; replace p6 := eq_true p6; replace q6 := eq_true q6; have HX10 := Aside0.mk (show Kd.R k64 64 w9 w0.heap.size (fun k_ => (P0_ k_ ∨ w.heap.size ≤ k_)) (.slice (some ⟨go5, 0, none⟩) x0_1.length co7) y101 from (by (with_reducible repeat (first | apply Kd.R_alloc | apply Kd.R_drewN | apply Kd.R_drew)); exact HO_0.out)); obtain ⟨ce10, hcl10, hM10, hcc10, hfr10⟩ := Kd.R_elem HX10.out z64 (x5_1 : Int) (of_decide_eq_true (by first | (with_reducible assumption) | assumption)) (by have h_ : (x5_1 : Int) < ((x0_1.length : Int) : Int) := of_decide_eq_true (by first | (with_reducible assumption) | assumption); first | exact h_ | (have e_ := (Kd.R_reads' HO_0.out).1; omega) | simpa using h_); obtain rfl := k64_openM hM10; have HP10 := Kd.R_seg HX10.out (x5_1 : Int) (of_decide_eq_true (by first | (with_reducible assumption) | assumption)) (by have h_ : (x5_1 : Int) < ((x0_1.length : Int) : Int) := of_decide_eq_true (by first | (with_reducible assumption) | assumption); first | exact h_ | (have e_ := (Kd.R_reads' HO_0.out).1; omega) | simpa using h_) (seg := [.int .i64 (wrap64 (x1_1 + 1))]) (j := 1) hcl10 hcc10 (show 2 ≤ 2 from by decide) (x' := (⟨(rd_T64 y101 x5_1).f0, wrap64 (x1_1 + 1)⟩ : S64)) (k64_mkM _ _ _ (⟨(rd_T64 y101 x5_1).f0, wrap64 (x1_1 + 1)⟩ : S64) ) (fun _ hk => hk); have hx10_1 := hcc10 1 _ rfl; (try simp only [show (k64).sz = 2 from rfl, Nat.mul_one, Nat.add_zero] at hx10_1); have hf10_1 := hfr10 1; (try simp only [show (k64).sz = 2 from rfl, Nat.mul_one, Nat.add_zero] at hf10_1); clear hcl10 hcc10 hfr10 hM10) | ((with_reducible refine gate_store (t := 3) (p := 23) rfl ?_); refine store_event (t := 3) (p := 23) (v := ?vo_w11) (w1 := (w9.setCell ⟨go5, (x5_1 : Int).toNat * 2 + 1, none⟩ (.int .i64 (wrap64 (x1_1 + 1))))) ?hg ?ho ?hn ?hr ?_; (case ho => rfl); (case hg => rfl); (case hn => rfl); (case hr => first | (go_simp; done) | (go_simp; rfl)); intro w11 hw; have hg : w9.grownBy w11 (some go5) := (by rw [hw]; exact HP10.2); have hp_ : Kd.R k64 64 w11 w0.heap.size (fun k_ => (P0_ k_ ∨ w.heap.size ≤ k_)) (.slice (some ⟨go5, 0, none⟩) x0_1.length co7) y102 := (by rw [hw, Ny102.out]; exact HP10.1); clear HP10; have n0_ := Aside0.mk (hp_); have n1_ := Aside0.mk ((by rw [hw]; exact below_set (HB.out) GB5.out : Below w0.heap.size w0 w11)); have n2_ := Aside0.mk (Kept.of_grown (S := (fun k_ => P0_ k_)) hg (by repeat (first | (with_reducible first | exact HK.out | apply Kept.alloc | apply Kept.drewN | apply Kept.drew) | exact HK.out)) (fun k_ e_ => (HO_0.out.1 k_ e_))); clear HO_0; clear HB; clear HK; have HO_0 := n0_; have HB := n1_; have HK := n2_; clear n0_ n1_ n2_; clear hg hw hp_))
          go_roundg k1
          case measure => have := HK1.out; omega
          case rel => exact ⟨(y102), (wrap64 ((wrap64 (x1_1 + 1)) + 1)), (wrap64 (x5_1 + 1)), (by first | rfl | (simp; done) | (simp [*]; done)), (by first | rfl | (simp; done) | (simp [*]; done)), H', ⟨by have := HK1.out; omega⟩, ⟨by (with_reducible repeat (first | apply Kd.R_alloc | apply Kd.R_drewN | apply Kd.R_drew)); exact HO_0.out⟩, ⟨by repeat (first | (with_reducible first | exact HK.out | apply Kept.alloc | apply Kept.drewN | apply Kept.drew) | exact HK.out)⟩, ⟨by repeat (first | (with_reducible first | exact HB.out | apply below_alloc | apply pw_below_drewN | apply below_drew1) | exact HB.out)⟩⟩
        · rw [if_neg c4] at H
          exact absurd H (by simp)
      · rw [if_neg c3] at H
        have c3b0 : decide (x5_1 < (x0_1.length : Int)) = false := decide_eq_false c3
        clear c3
        simp only [Option.some.injEq, Prod.mk.injEq] at H
        obtain ⟨rfl, rfl⟩ := H
        obtain ⟨Ao12, co12, eo12⟩ := Kd.R_slice HO_0.out
        subst eo12
        go_wp2
        go_ret
        exact ⟨by first | rfl | (simp [errW_none, errW_some] <;> rfl) | (simp [*, errW_none, errW_some] <;> rfl), by (with_reducible repeat (first | apply Kd.R_alloc | apply Kd.R_drewN | apply Kd.R_drew)); exact HO_0.out, by repeat (first | (with_reducible first | exact HB.out | apply below_alloc | apply pw_below_drewN | apply below_drew1) | exact HB.out), by repeat (first | (with_reducible first | exact HK.out | apply Kept.alloc | apply Kept.drewN | apply Kept.drew) | exact HK.out)⟩
end Go.Proofs.Yteeghncofacmhaa.Q
end
section
namespace Go.Proofs.Yteeghncofacmhaa.Q
open Go.RowKit Go.Proofs.YteeghncofacmhaaW.PrintWords Go.Proofs.YteeghncofacmhaaW.PrintLast Go.Proofs.YteeghncofacmhaaW.PrintMore
attribute [local go_sem] max2_int min2_int max_two min_two max_three min_three max_four min_four   -- for this text's walks alone
set_option linter.unusedVariables false
set_option linter.unusedSimpArgs false
/-! ### laws_markIntS: function 17 -/
def laws_markIntS.l0 : Nat → List Int → Int → Int → Option (Int × List Int)
  | 0, _, _, _ => none
  | k + 1, x0, x1, x5 => if x5 < (x0.length : Int) then (if 0 ≤ x5 then (laws_markIntS.l0 k (x0.set (x5 : Int).toNat x1) (wrap64 (x1 + 1)) (wrap64 (x5 + 1))) else (none)) else (some (x1, x0))
def laws_markIntS.f (k : Nat) (l0 : List Int) (a1 : Int) : Option (Int × List Int) := laws_markIntS.l0 k l0 a1 0
end Go.Proofs.Yteeghncofacmhaa.Q
end
section
namespace Go.Proofs.Yteeghncofacmhaa.Q
open Go.RowKit Go.Proofs.YteeghncofacmhaaW.PrintWords Go.Proofs.YteeghncofacmhaaW.PrintLast Go.Proofs.YteeghncofacmhaaW.PrintMore
attribute [local go_sem] max2_int min2_int max_two min_two max_three min_three max_four min_four   -- for this text's walks alone
set_option linter.unusedVariables false
set_option linter.unusedSimpArgs false
/-! ### laws_heldIntS: function 18 -/
def laws_heldIntS.l0 : Nat → List Int → Int → Int → Option (Int)
  | 0, _, _, _ => none
  | k + 1, x0, x1, x5 => if x5 < (x0.length : Int) then (if 0 ≤ x5 then (if (rd x0 x5) = x1 then (laws_heldIntS.l0 k x0 (wrap64 (x1 + 1)) (wrap64 (x5 + 1))) else (some (-1))) else (none)) else (some x1)
def laws_heldIntS.f (k : Nat) (l0 : List Int) (a1 : Int) : Option (Int) := laws_heldIntS.l0 k l0 a1 0
end Go.Proofs.Yteeghncofacmhaa.Q
end
section
/- What the laws' own helpers compute: rows copied, compared, marked and held. -/
namespace Go.Proofs.Yteeghncofacmhaa.Q
open Go.RowKit Go.Proofs.YteeghncofacmhaaW.PrintWords Go.Proofs.YteeghncofacmhaaW.PrintLast Go.Proofs.YteeghncofacmhaaW.PrintMore
set_option linter.unusedVariables false
set_option linter.unusedSimpArgs false
def toCh (l : List S66) : List Ch := l.map fun c => ⟨c.f0, c.f1⟩
theorem toCh_length (l : List S66) : (toCh l).length = l.length := by simp [toCh]
theorem rdL_at {xs : List S66} {i : Nat} (h : i < xs.length) : rd_T66 xs (i : Int) = xs[i] := by
  simp [rd_T66, List.getD_eq_getElem?_getD, List.getElem?_eq_getElem h]
theorem szChordS_eq (l : List S66) (hl : l.length ≤ 9223372036854775807) : laws_szChordS.f l 1048576 = some (if 1048576 < l.length then -1 else 1048576 - (l.length : Int)) := by
  have hw : wrap64 (1048576 - (l.length : Int)) = 1048576 - (l.length : Int) := by unfold wrap64; omega
  unfold laws_szChordS.f
  rw [hw]
  by_cases h : 1048576 < l.length
  · rw [if_pos (by omega), if_pos h]
  · rw [if_neg (by omega), if_neg h]
theorem set_mid {α : Type} (a : List α) (b : List α) (x : α) (i : Nat) (hi : i < b.length) (ha : a.length = i) (hb : a.length ≤ i) : (a ++ b.drop i).set i x = (a ++ [x]) ++ b.drop (i + 1) := by
  rw [List.set_append_right _ _ (by omega), List.drop_eq_getElem_cons hi, ha, Nat.sub_self, List.set_cons_zero, List.append_assoc]
  rfl
theorem toChordS_ev (l : List S66) (hl : l.length ≤ 1048576) : Ev (fun k => laws_toChordS.f k l) (toCh l) := by
  have key : ∀ (d i : Nat), i + d = l.length → Ev (fun k => laws_toChordS.l0 k l ((toCh l).take i ++ (List.replicate l.length z64).drop i) (i : Int)) (toCh l) := by
    intro d
    induction d with
    | zero =>
      intro i hd
      refine Ev.some_ fun k => ?_
      simp only [laws_toChordS.l0]
      rw [if_neg (by omega)]
      obtain rfl : i = l.length := by omega
      rw [List.drop_eq_nil_of_le (by simp), List.take_of_length_le (by rw [toCh_length]; exact Nat.le_refl _), List.append_nil]
    | succ d ih =>
      intro i hd
      have hi : i < l.length := by omega
      have hti : ((toCh l).take i).length = i := by rw [List.length_take, toCh_length]; omega
      refine Ev.step (fun k => ?_) (ih (i + 1) (by omega))
      simp only [laws_toChordS.l0, laws_toChord.f, Option.bind_some]
      rw [if_pos (by omega), if_pos (by omega), if_pos (by rw [List.length_append, hti, List.length_drop, List.length_replicate]; omega), w64 hi (by omega), Int.toNat_natCast, rdL_at hi, set_mid _ _ _ i (by simpa using hi) hti (by omega), List.take_succ_eq_append_getElem (by rw [toCh_length]; exact hi)]
      simp [toCh]
  unfold laws_toChordS.f
  refine Ev.congr (f := fun k => laws_toChordS.l0 k l (List.replicate l.length z64) 0) (fun k => ?_) ?_
  · rw [if_pos (by omega), Int.toNat_natCast, if_pos (by omega)]
  · have := key l.length 0 (by omega)
    simpa using this
theorem eqChordS_refl (a : List Ch) (hl : a.length ≤ 4611686018427387904) : Ev (fun k => laws_eqChordS.f k a a) true := by
  have key : ∀ (d i : Nat), i + d = a.length → Ev (fun k => laws_eqChordS.l0 k a a (i : Int)) true := by
    intro d
    induction d with
    | zero =>
      intro i hd
      refine Ev.some_ fun k => ?_
      simp only [laws_eqChordS.l0]
      rw [if_neg (by omega)]
    | succ d ih =>
      intro i hd
      refine Ev.step (fun k => ?_) (ih (i + 1) (by omega))
      simp only [laws_eqChordS.l0, laws_eqChord.f]
      rw [if_pos (by omega), if_pos (by omega), if_pos (by omega), if_pos trivial, if_pos trivial, Option.bind_some, if_pos rfl, w64 (n := a.length) (by omega) hl]
  unfold laws_eqChordS.f
  refine Ev.congr (f := fun k => laws_eqChordS.l0 k a a 0) (fun k => by rw [if_pos rfl]) (key a.length 0 (by omega))
end Go.Proofs.Yteeghncofacmhaa.Q
end
section
namespace Go.Proofs.Yteeghncofacmhaa.Q
open Go.RowKit Go.Proofs.YteeghncofacmhaaW.PrintWords Go.Proofs.YteeghncofacmhaaW.PrintLast Go.Proofs.YteeghncofacmhaaW.PrintMore
attribute [local go_sem] max2_int min2_int max_two min_two max_three min_three max_four min_four   -- for this text's walks alone
set_option linter.unusedVariables false
set_option linter.unusedSimpArgs false
/-! ### spec_RegionSizes: function 11 -/
def spec_RegionSizes.l0 : Nat → List Int → List (List Int) → Int → Int → Option (List Int × Bool)
  | 0, _, _, _, _ => none
  | k + 1, x6, x15, x16, x17 => if x17 < x16 then (if 0 ≤ x17 then (if x17 < (x15.length : Int) then (if x6.length < 17592186044416 then (spec_RegionSizes.l0 k (x6 ++ [((rd_L4 x15 x17).length : Int)]) x15 x16 (wrap64 (x17 + 1))) else (none)) else (none)) else (none)) else (some (x6, true))
def spec_RegionSizes.f (k : Nat) (a0 : Int) (l1 : List (S64)) : Option (List Int × Bool) := (spec_rePlane.f k a0 l1).bind fun t101 => (if t101 = true then ((spec_reList.f a0 l1).bind fun t102 => (spec_RegionSizes.l0 k ([] : List Int) t102 (t102.length : Int) 0)) else (some (([] : List Int), false)))
end Go.Proofs.Yteeghncofacmhaa.Q
end
section
namespace Go.Proofs.Yteeghncofacmhaa.Q
open Go.RowKit Go.Proofs.YteeghncofacmhaaW.PrintWords Go.Proofs.YteeghncofacmhaaW.PrintLast Go.Proofs.YteeghncofacmhaaW.PrintMore
attribute [local go_sem] max2_int min2_int max_two min_two max_three min_three max_four min_four   -- for this text's walks alone
set_option linter.unusedVariables false
set_option linter.unusedSimpArgs false
/-! ### impl_RegionSizes: function 13 -/
def impl_RegionSizes.l0 : Nat → List Int → List (S71) → Int → Int → Option (List Int × Bool)
  | 0, _, _, _, _ => none
  | k + 1, x8, x20, x21, x22 => if x22 < x21 then (if 0 ≤ x22 then (if x22 < (x20.length : Int) then (if x8.length < 17592186044416 then (impl_RegionSizes.l0 k (x8 ++ [(((rd_T71 x20 x22).f0).length : Int)]) x20 x21 (wrap64 (x22 + 1))) else (none)) else (none)) else (none)) else (some (x8, true))
def impl_RegionSizes.f (k : Nat) (a0 : Int) (l1 : List (S64)) : Option (List Int × Bool) := (impl_planeRegions.f a0 l1).bind fun bt101 => (if bt101.2 = true then (impl_RegionSizes.l0 k (([] : List Int)) bt101.1 (bt101.1.length : Int) 0) else (some (([] : List Int), false)))
end Go.Proofs.Yteeghncofacmhaa.Q
end
section
namespace Go.Proofs.Yteeghncofacmhaa.Q
open Go.RowKit Go.Proofs.YteeghncofacmhaaW.PrintWords Go.Proofs.YteeghncofacmhaaW.PrintLast Go.Proofs.YteeghncofacmhaaW.PrintMore
attribute [local go_sem] max2_int min2_int max_two min_two max_three min_three max_four min_four   -- for this text's walks alone
set_option linter.unusedVariables false
set_option linter.unusedSimpArgs false
/-! ### laws_FnExactRegionSizes: function 3 -/
mutual
def laws_FnExactRegionSizes.j0 : Nat → Int → List (S66) → List Int → Bool → List (S64) → List Int → Bool → Bool → Option (Bool)
  | 0, _, _, _, _, _, _, _, _ => none
  | k + 1, x0, x1, x6, x7, x8, x9, x10, x44 => if x44 = true then (some false) else ((laws_toChordS.f k x1).bind fun t117 => ((laws_eqChordS.f k x8 t117).bind fun t120 => (if t120 = true then ((laws_markChordS.f k x8 1).bind fun bt121 => (if bt121.1 < 0 then (laws_FnExactRegionSizes.j1 k x0 x1 x6 x7 x9 true) else ((laws_eqIntS.f k x9 x6).bind fun t123 => (if t123 = true then (laws_FnExactRegionSizes.j1 k x0 x1 x6 x7 x9 (x10 != x7)) else (laws_FnExactRegionSizes.j1 k x0 x1 x6 x7 x9 true))))) else (some false))))
def laws_FnExactRegionSizes.j1 : Nat → Int → List (S66) → List Int → Bool → List Int → Bool → Option (Bool)
  | 0, _, _, _, _, _, _ => none
  | k + 1, x0, x1, x6, x7, x9, x65 => if x65 = true then (some false) else ((laws_markIntS.f k x9 1).bind fun bt124 => ((laws_heldIntS.f k bt124.2 1).bind fun t126 => (if t126 < 0 then (some false) else (if t126 = bt124.1 then ((laws_toChordS.f k x1).bind fun t127 => ((impl_RegionSizes.f k x0 t127).bind fun bt130 => ((laws_eqIntS.f k bt130.1 x6).bind fun t134 => (if t134 = true then (laws_FnExactRegionSizes.j2 k bt124.2 bt124.1 (bt130.2 != x7)) else (laws_FnExactRegionSizes.j2 k bt124.2 bt124.1 true))))) else (some false)))))
def laws_FnExactRegionSizes.j2 : Nat → List Int → Int → Bool → Option (Bool)
  | 0, _, _, _ => none
  | k + 1, x9, x12, x92 => if x92 = true then (some false) else ((laws_heldIntS.f k x9 1).bind fun t135 => (if t135 < 0 then (some false) else (if t135 = x12 then (some true) else (some false))))
end
def laws_FnExactRegionSizes.f (k : Nat) (a0 : Int) (l1 : List (S66)) : Option (Bool) := (laws_szChordS.f l1 1048576).bind fun t101 => (if t101 < 0 then (some true) else ((laws_toChordS.f k l1).bind fun t102 => ((spec_RegionSizes.f k a0 t102).bind fun bt105 => ((laws_toChordS.f k l1).bind fun t109 => ((impl_RegionSizes.f k a0 t109).bind fun bt112 => ((laws_eqIntS.f k bt112.1 bt105.1).bind fun t116 => (if t116 = true then (laws_FnExactRegionSizes.j0 k a0 l1 bt105.1 bt105.2 t109 bt112.1 bt112.2 (bt112.2 != bt105.2)) else (laws_FnExactRegionSizes.j0 k a0 l1 bt105.1 bt105.2 t109 bt112.1 bt112.2 true))))))))
end Go.Proofs.Yteeghncofacmhaa.Q
end
section
/- RegionSizes: both sides tell the same; the law is true. -/
namespace Go.Proofs.Yteeghncofacmhaa.Q
open Go.RowKit Go.Proofs.YteeghncofacmhaaW.PrintWords Go.Proofs.YteeghncofacmhaaW.PrintLast Go.Proofs.YteeghncofacmhaaW.PrintMore
set_option linter.unusedVariables false
set_option linter.unusedSimpArgs false
theorem regs_points {n : Int} {l : List Ch} (h : plane n l = true) : (regs n l).map (fun x => x.f0) = faces n l := by
  have hnc := plane_nc h
  have hn := (good_n (plane_good h)).1
  unfold regs faces
  rw [List.map_mergeSort (s := fun x y => lexLe x y) (fun _ _ _ _ => rfl), List.map_map]
  congr 1
  refine List.map_congr_left fun q hq => ?_
  exact reg_points hnc (by omega) (mem_ids.1 hq)
theorem reList_eq {n : Int} {l : List Ch} (h : plane n l = true) : spec_reList.f n l = some (faces n l) := by
  unfold spec_reList.f
  rw [if_pos ⟨(good_n (plane_good h)).2, good_len (plane_good h)⟩, reRegions_eq (plane_nc h) (good_nodup (plane_good h))]
theorem faces_length (n : Int) (l : List Ch) : (faces n l).length = l.length + 1 := by
  unfold faces ids; simp
theorem rdL4_at {xs : List (List Int)} {i : Nat} (h : i < xs.length) : rd_L4 xs (i : Int) = xs[i] := by
  simp [rd_L4, List.getD_eq_getElem?_getD, List.getElem?_eq_getElem h]
end Go.Proofs.Yteeghncofacmhaa.Q
end
section
namespace Go.Proofs.Yteeghncofacmhaa.Q
open Go.RowKit Go.Proofs.YteeghncofacmhaaW.PrintWords Go.Proofs.YteeghncofacmhaaW.PrintLast Go.Proofs.YteeghncofacmhaaW.PrintMore
attribute [local go_sem] max2_int min2_int max_two min_two max_three min_three max_four min_four   -- for this text's walks alone
set_option linter.unusedVariables false
set_option linter.unusedSimpArgs false
/-! ### spec_l1Least: function 84 -/
def spec_l1Least.f (a0 : Int) (a1 : Int) : Option (Int) := if a0 < a1 then (some a0) else (some a1)
set_option maxHeartbeats 8000000 in
set_option maxRecDepth 100000 in
theorem spec_l1Least.calls (a0 : Int) (a1 : Int) (r : Int) (w : World) (h : spec_l1Least.f a0 a1 = some r) :
    Calls Try.prog 84 #[.int .i64 a0, .int .i64 a1] w fun e w' => e = .returned (.int .i64 r) ∧ Drawn0 w w' := by
  have H : (if a0 < a1 then (some a0) else (some a1)) = some r := h
  clear h
  by_cases c3 : a0 < a1
  · rw [if_pos c3] at H
    have c3b0 : decide (a0 < a1) = true := decide_eq_true c3
    clear c3
    obtain rfl := Option.some.inj H
    go_enter Try.func84, Try.ntmps84
    go_wp2
    go_ret
    exact ⟨by first | rfl | (simp; done) | (simp [*]; done), by repeat (first | exact Drawn0.refl _ | apply Drawn0.step)⟩
  · rw [if_neg c3] at H
    have c3b0 : decide (a0 < a1) = false := decide_eq_false c3
    clear c3
    obtain rfl := Option.some.inj H
    go_enter Try.func84, Try.ntmps84
    go_wp2
    go_ret
    exact ⟨by first | rfl | (simp; done) | (simp [*]; done), by repeat (first | exact Drawn0.refl _ | apply Drawn0.step)⟩
end Go.Proofs.Yteeghncofacmhaa.Q
end
section
namespace Go.Proofs.Yteeghncofacmhaa.Q
open Go.RowKit Go.Proofs.YteeghncofacmhaaW.PrintWords Go.Proofs.YteeghncofacmhaaW.PrintLast Go.Proofs.YteeghncofacmhaaW.PrintMore
attribute [local go_sem] max2_int min2_int max_two min_two max_three min_three max_four min_four   -- for this text's walks alone
set_option linter.unusedVariables false
set_option linter.unusedSimpArgs false
/-! ### spec_l1Most: function 85 -/
def spec_l1Most.f (a0 : Int) (a1 : Int) : Option (Int) := if a0 > a1 then (some a0) else (some a1)
end Go.Proofs.Yteeghncofacmhaa.Q
end
section
namespace Go.Proofs.Yteeghncofacmhaa.Q
open Go.RowKit Go.Proofs.YteeghncofacmhaaW.PrintWords Go.Proofs.YteeghncofacmhaaW.PrintLast Go.Proofs.YteeghncofacmhaaW.PrintMore
attribute [local go_sem] max2_int min2_int max_two min_two max_three min_three max_four min_four   -- for this text's walks alone
set_option linter.unusedVariables false
set_option linter.unusedSimpArgs false
/-! ### spec_srChord: function 108 -/
def spec_srChord.f (a0 : Int) (a1 : Int) : Option (Int × Int) := (spec_l1Least.f a0 a1).bind fun t102 => ((spec_l1Most.f a0 a1).bind fun t103 => (some (t102, t103)))
end Go.Proofs.Yteeghncofacmhaa.Q
end
section
namespace Go.Proofs.Yteeghncofacmhaa.Q
open Go.RowKit Go.Proofs.YteeghncofacmhaaW.PrintWords Go.Proofs.YteeghncofacmhaaW.PrintLast Go.Proofs.YteeghncofacmhaaW.PrintMore
attribute [local go_sem] max2_int min2_int max_two min_two max_three min_three max_four min_four   -- for this text's walks alone
set_option linter.unusedVariables false
set_option linter.unusedSimpArgs false
attribute [local go_sem high] eqA64
/-! ### spec_reArc: function 62 -/
mutual
def spec_reArc.l0 : Nat → List (S64) → Int → Int → List (List Int) → Int → Int → Option (Int)
  | 0, _, _, _, _, _, _ => none
  | k + 1, x1, x3, x9, x19, x20, x21 => if x21 < x20 then (if 0 ≤ x21 then (if x21 < (x19.length : Int) then ((spec_l1Has.f k (rd_L4 x19 x21) x3).bind fun t102 => (if t102 = true then ((spec_l1Has.f k (rd_L4 x19 x21) x9).bind fun t103 => (spec_reArc.j1 k x1 x3 x9 x21 (rd_L4 x19 x21) x19 x20 x21 (!t103))) else (spec_reArc.j1 k x1 x3 x9 x21 (rd_L4 x19 x21) x19 x20 x21 true))) else (none)) else (none)) else (some (-1))
def spec_reArc.j1 : Nat → List (S64) → Int → Int → Int → List Int → List (List Int) → Int → Int → Bool → Option (Int)
  | 0, _, _, _, _, _, _, _, _, _ => none
  | k + 1, x1, x3, x9, x10, x11, x19, x20, x21, x35 => if x35 = true then (spec_reArc.l0 k x1 x3 x9 x19 x20 (wrap64 (x21 + 1))) else (spec_reArc.l1 k x1 x3 x9 x10 x11 false x19 x20 x21 x1 (x1.length : Int) 0)
def spec_reArc.l1 : Nat → List (S64) → Int → Int → Int → List Int → Bool → List (List Int) → Int → Int → List (S64) → Int → Int → Option (Int)
  | 0, _, _, _, _, _, _, _, _, _, _, _, _ => none
  | k + 1, x1, x3, x9, x10, x11, x12, x19, x20, x21, x36, x37, x38 => if x38 < x37 then (if 0 ≤ x38 then (if x38 < (x36.length : Int) then (if x12 = true then (spec_reArc.l1 k x1 x3 x9 x10 x11 true x19 x20 x21 x36 x37 (wrap64 (x38 + 1))) else ((spec_srChord.f x3 x9).bind fun bt106 => (spec_reArc.l1 k x1 x3 x9 x10 x11 (((rd_T64 x36 x38).f0) == bt106.1 && (((rd_T64 x36 x38).f1) == bt106.2)) x19 x20 x21 x36 x37 (wrap64 (x38 + 1))))) else (none)) else (none)) else (if x12 = true then (if (x11.length : Int) = 2 then (some x10) else (spec_reArc.l0 k x1 x3 x9 x19 x20 (wrap64 (x21 + 1)))) else (some x10))
end
def spec_reArc.f (k : Nat) (a0 : Int) (l1 : List (S64)) (l2 : List (List Int)) (a3 : Int) : Option (Int) := if a0 = 0 then (none) else (spec_reArc.l0 k l1 a3 (Int.tmod (wrap64 (a3 + 1)) a0) l2 (l2.length : Int) 0)
end Go.Proofs.Yteeghncofacmhaa.Q
end
section
namespace Go.Proofs.Yteeghncofacmhaa.Q
open Go.RowKit Go.Proofs.YteeghncofacmhaaW.PrintWords Go.Proofs.YteeghncofacmhaaW.PrintLast Go.Proofs.YteeghncofacmhaaW.PrintMore
attribute [local go_sem] max2_int min2_int max_two min_two max_three min_three max_four min_four   -- for this text's walks alone
set_option linter.unusedVariables false
set_option linter.unusedSimpArgs false
/-! ### spec_RegionOfArc: function 19 -/
def spec_RegionOfArc.j0 : Nat → Int → List (S64) → Int → Bool → Option (Int × Bool)
  | 0, _, _, _, _ => none
  | k + 1, x0, x1, x2, x18 => if x18 = true then (some (0, false)) else ((spec_reList.f x0 x1).bind fun t103 => ((spec_reArc.f k x0 x1 t103 x2).bind fun t106 => (some (t106, true))))
def spec_RegionOfArc.f (k : Nat) (a0 : Int) (l1 : List (S64)) (a2 : Int) : Option (Int × Bool) := (spec_rePlane.f k a0 l1).bind fun t101 => (if t101 = true then ((spec_l1In.f a2 0 (wrap64 (a0 - 1))).bind fun t102 => (spec_RegionOfArc.j0 k a0 l1 a2 (!t102))) else (spec_RegionOfArc.j0 k a0 l1 a2 true))
end Go.Proofs.Yteeghncofacmhaa.Q
end
section
namespace Go.Proofs.Yteeghncofacmhaa.Q
open Go.RowKit Go.Proofs.YteeghncofacmhaaW.PrintWords Go.Proofs.YteeghncofacmhaaW.PrintLast Go.Proofs.YteeghncofacmhaaW.PrintMore
attribute [local go_sem] max2_int min2_int max_two min_two max_three min_three max_four min_four   -- for this text's walks alone
set_option linter.unusedVariables false
set_option linter.unusedSimpArgs false
/-! ### laws_FnExactRegionOfArc: function 4 -/
def laws_FnExactRegionOfArc.j0 : Nat → List (S66) → List (S64) → Bool → Option (Bool)
  | 0, _, _, _ => none
  | k + 1, x1, x10, x42 => if x42 = true then (some false) else ((laws_toChordS.f k x1).bind fun t112 => ((laws_eqChordS.f k x10 t112).bind fun t115 => (if t115 = true then (some true) else (some false))))
def laws_FnExactRegionOfArc.f (k : Nat) (a0 : Int) (l1 : List (S66)) (a2 : Int) : Option (Bool) := (laws_szChordS.f l1 1048576).bind fun t101 => (if t101 < 0 then (some true) else ((laws_toChordS.f k l1).bind fun t102 => ((spec_RegionOfArc.f k a0 t102 a2).bind fun bt105 => ((laws_toChordS.f k l1).bind fun t107 => ((impl_RegionOfArc.f a0 t107 a2).bind fun bt110 => (if bt110.1 = bt105.1 then (laws_FnExactRegionOfArc.j0 k l1 t107 (bt110.2 != bt105.2)) else (laws_FnExactRegionOfArc.j0 k l1 t107 true)))))))
end Go.Proofs.Yteeghncofacmhaa.Q
end
section
/- RegionOfArc: both sides tell the same region; the law is true. -/
namespace Go.Proofs.Yteeghncofacmhaa.Q
open Go.RowKit Go.Proofs.YteeghncofacmhaaW.PrintWords Go.Proofs.YteeghncofacmhaaW.PrintLast Go.Proofs.YteeghncofacmhaaW.PrintMore
set_option linter.unusedVariables false
set_option linter.unusedSimpArgs false
theorem three_le {l : List Int} {a b c : Int} (ha : a ∈ l) (hb : b ∈ l) (hc : c ∈ l) (h1 : a < b) (h2 : b < c) : 3 ≤ l.length := by
  rcases l with _ | ⟨x, _ | ⟨y, _ | ⟨z, t⟩⟩⟩
  · simp at ha
  · simp at ha hb; omega
  · simp at ha hb hc; omega
  · simp
theorem len_two {l : List Int} (hs : l.Pairwise (· < ·)) {a b : Int} (hab : a < b) (ha : a ∈ l) (hb : b ∈ l) (hall : ∀ x ∈ l, x = a ∨ x = b) : l.length = 2 := by
  rcases l with _ | ⟨x, _ | ⟨y, _ | ⟨z, t⟩⟩⟩
  · simp at ha
  · simp at ha hb; omega
  · rfl
  · have hx := hall x (by simp)
    have hy := hall y (by simp)
    have hz := hall z (by simp)
    rw [List.pairwise_cons] at hs
    have h1 := hs.1 y (by simp)
    have h2 := (List.pairwise_cons.1 hs.2).1 z (by simp)
    omega
theorem faces_small {n : Int} {l : List Ch} (h : plane n l = true) : ∀ r ∈ faces n l, r.length ≤ 100 := fun r hr => by
  rw [← regs_points h, List.mem_map] at hr
  obtain ⟨x, hx, rfl⟩ := hr
  exact (regs_small h hx).1
end Go.Proofs.Yteeghncofacmhaa.Q
end
section
/- Sets of chords that leave triangles: how many points all regions have, and what a flip changes. No program is walked here. -/
namespace Go.Proofs.Yteeghncofacmhaa.Q
open Go.RowKit Go.Proofs.YteeghncofacmhaaW.PrintWords Go.Proofs.YteeghncofacmhaaW.PrintLast Go.Proofs.YteeghncofacmhaaW.PrintMore
set_option linter.unusedVariables false
set_option linter.unusedSimpArgs false
theorem InF_congr {l l' : List Ch} (h : ∀ d, d ∈ l ↔ d ∈ l') (q : Option Ch) (x : Int) : InF l q x ↔ InF l' q x := by
  unfold InF
  constructor
  · rintro ⟨h1, h2⟩; exact ⟨h1, fun d hd => h2 d ((h d).2 hd)⟩
  · rintro ⟨h1, h2⟩; exact ⟨h1, fun d hd => h2 d ((h d).1 hd)⟩
def sumLen (rs : List (List Int)) : Nat := (rs.map List.length).sum
theorem sumLen_cons (r : List Int) (rs : List (List Int)) : sumLen (r :: rs) = r.length + sumLen rs := by simp [sumLen]
theorem sumLen_append (a b : List (List Int)) : sumLen (a ++ b) = sumLen a + sumLen b := by simp [sumLen]
theorem sumLen_perm {a b : List (List Int)} (h : a.Perm b) : sumLen a = sumLen b := by
  induction h with
  | nil => rfl
  | cons x _ ih => rw [sumLen_cons, sumLen_cons, ih]
  | swap x y l => simp only [sumLen_cons]; omega
  | trans _ _ ih1 ih2 => rw [ih1, ih2]
theorem filter_two {p q : Int → Bool} (hpq : ∀ x, p x = true ∨ q x = true) : ∀ r : List Int, (r.filter p).length + (r.filter q).length = r.length + (r.filter fun x => p x && q x).length
  | [] => rfl
  | x :: r => by
    have ih := filter_two hpq r
    rcases hp : p x with _ | _ <;> rcases hq : q x with _ | _
    · rcases hpq x with h | h
      · rw [hp] at h; cases h
      · rw [hq] at h; cases h
    all_goals (simp only [List.filter_cons, hp, hq, Bool.and_self, Bool.and_true, Bool.and_false, Bool.true_and, Bool.false_and, Bool.false_eq_true, if_true, if_false, ite_true, ite_false, List.length_cons]; omega)
theorem split_len {r : List Int} (hs : r.Pairwise (· < ·)) {a b : Int} (hab : a < b) (ha : a ∈ r) (hb : b ∈ r) : (reIn a b r).length + (reOut a b r).length = r.length + 2 := by
  unfold reIn reOut
  rw [filter_two (fun x => by simp; omega)]
  congr 1
  refine len_two (hs.filter _) hab ?_ ?_ (fun x hx => ?_)
  · rw [List.mem_filter]; refine ⟨ha, ?_⟩; simp; omega
  · rw [List.mem_filter]; refine ⟨hb, ?_⟩; simp; omega
  · rw [List.mem_filter] at hx
    have := hx.2
    simp at this
    omega
theorem face_sum_step {n : Int} {l : List Ch} {c : Ch} (h : NC n (c :: l)) (hc : c ∉ l) (hnd : l.Nodup) : sumLen ((ids (l ++ [c])).map (face n (l ++ [c]))) = sumLen ((ids l).map (face n l)) + 2 := by
  have hp := step_perm h hc hnd (List.Perm.refl ((ids l).map (face n l)))
  rw [← sumLen_perm hp]
  have hco := h.ok c List.mem_cons_self
  obtain ⟨p, hp, hb, h0, h1⟩ := home h hc (meas n none) none (fun d hd => by cases hd) (Nat.le_refl _) trivial
  have hpm : p ∈ ids l := mem_ids.2 hp
  have hface : face n l p ∈ (ids l).map (face n l) := List.mem_map.2 ⟨p, hpm, rfl⟩
  have hhit : reHit c.f0 c.f1 (face n l p) = true := (hit_iff hco).2 ⟨h0, h1⟩
  have hsort : ∀ r ∈ (ids l).map (face n l), r.Pairwise (· < ·) := fun r hr => by
    obtain ⟨q, _, e⟩ := List.mem_map.1 hr
    rw [← e]; exact face_lt n l q
  generalize (ids l).map (face n l) = rs at hface hsort
  unfold reStep
  cases hf : rs.findIdx? (reHit c.f0 c.f1) with
  | none =>
    have := List.findIdx?_eq_none_iff.1 hf _ hface
    rw [hhit] at this; cases this
  | some i =>
    obtain ⟨hi, hi2, _⟩ := List.findIdx?_eq_some_iff_getElem.1 hf
    have hg : rs.getD i [] = rs[i] := by rw [List.getD_eq_getElem?_getD, List.getElem?_eq_getElem hi]; rfl
    show sumLen (rs.take i ++ [reIn c.f0 c.f1 (rs.getD i []), reOut c.f0 c.f1 (rs.getD i [])] ++ rs.drop (i + 1)) = _
    rw [hg]
    unfold reHit at hi2
    rw [Bool.and_eq_true, List.contains_iff_mem, List.contains_iff_mem] at hi2
    have hl := split_len (hsort _ (List.getElem_mem hi)) hco.2.1 hi2.1 hi2.2
    have e : rs = rs.take i ++ rs[i] :: rs.drop (i + 1) := by rw [List.getElem_cons_drop, List.take_append_drop]
    have e2 := congrArg sumLen e
    rw [sumLen_append, sumLen_cons] at e2
    rw [sumLen_append, sumLen_append, sumLen_cons, sumLen_cons]
    have e3 : sumLen [] = 0 := rfl
    rw [e3]
    omega
/-- All regions together have as_ many points as_ the circle, and two for each chord. -/
theorem face_sum {n : Int} {l : List Ch} (h : NC n l) (hnd : l.Nodup) : sumLen ((ids l).map (face n l)) = n.toNat + 2 * l.length := by
  have key : ∀ (l2 l1 : List Ch), l1 ++ l2 = l → sumLen ((ids l1).map (face n l1)) = n.toNat + 2 * l1.length → sumLen ((ids l).map (face n l)) = n.toNat + 2 * l.length := by
    intro l2
    induction l2 with
    | nil => intro l1 he hr; rw [List.append_nil] at he; subst he; exact hr
    | cons c l2 ih =>
      intro l1 he hr
      have hnd2 : (l1 ++ c :: l2).Nodup := he ▸ hnd
      have hnd3 := List.nodup_append.1 hnd2
      have hc : c ∉ l1 := fun hm => hnd3.2.2 c hm c List.mem_cons_self rfl
      have hn : NC n (c :: l1) := h.sub (fun d hd => by
        rw [← he]
        rcases List.mem_cons.1 hd with rfl | hd
        · exact List.mem_append_right _ List.mem_cons_self
        · exact List.mem_append_left _ hd)
      refine ih (l1 ++ [c]) (by rw [← he]; simp) ?_
      rw [face_sum_step hn hc hnd3.1, hr]
      simp
      omega
  refine key l [] rfl ?_
  have e : face n [] none = ints 0 n.toNat := by
    unfold face
    rw [List.filter_eq_self]
    intro x _
    exact decide_eq_true ⟨trivial, fun d hd => by simp at hd⟩
  show sumLen [face n [] none] = _
  rw [e]
  simp [sumLen, ints]
/-! ### triangles -/
def diagC (n : Int) (c : Ch) : Bool := decide (1 < c.f1 - c.f0 ∧ c.f1 - c.f0 < n - 1)
def tri (n : Int) (l : List Ch) : Bool := plane n l && decide ((l.length : Int) = n - 3) && l.all (diagC n)
theorem face_three {n : Int} {l : List Ch} {q : Option Ch} (h : NC n l) (hn : 3 ≤ n) (hd : ∀ c ∈ l, diagC n c = true) (hq : ∀ d, q = some d → d ∈ l) : 3 ≤ (face n l q).length := by
  obtain ⟨a0, a1, a2, a3, a4⟩ := lo_in (q := q) h (by omega) hq
  have hm : ∀ x, 0 ≤ x → x < n → InF l q x → x ∈ face n l q := fun x h0 h1 hx => mem_face.2 ⟨⟨h0, h1⟩, hx⟩
  cases q with
  | none =>
    simp only [loOf, hiOf] at a0 a1 a2 a3 a4
    by_cases hg : nextOf (hiOf n none) none 0 l 0 > 0
    · obtain ⟨j1, j2, j3, j4⟩ := jump h hq (Int.le_refl 0) a3 hg
      have hdg := hd _ j1
      unfold diagC at hdg
      rw [decide_eq_true_iff] at hdg
      have hdg2 : 1 < nextOf (hiOf n none) none 0 l 0 - 0 ∧ nextOf (hiOf n none) none 0 l 0 - 0 < n - 1 := hdg
      exact three_le (hm 0 (by omega) (by omega) a3) (hm _ (by omega) (by omega) j3) (hm (n - 1) (by omega) (by omega) a4) hg (by omega)
    · obtain ⟨j1, _⟩ := stride h hq (Int.le_refl 0) a3 (by simp only [hiOf]; omega) hg
      exact three_le (hm 0 (by omega) (by omega) a3) (hm _ (by omega) (by omega) j1) (hm (n - 1) (by omega) (by omega) a4) (by omega) (by omega)
  | some c =>
    have hc := hq c rfl
    have hco := h.ok c hc
    simp only [loOf, hiOf] at a0 a1 a2 a3 a4
    have hdg := hd c hc
    unfold diagC at hdg
    rw [decide_eq_true_iff] at hdg
    obtain ⟨x, x1, x2, x3⟩ := third h hn hc (by omega)
    exact three_le (hm c.f0 (by omega) (by omega) a3) (hm x (by omega) (by omega) x3) (hm c.f1 (by omega) (by omega) a4) x1 x2
theorem all_three : ∀ {rs : List (List Int)}, (∀ r ∈ rs, 3 ≤ r.length) → sumLen rs ≤ 3 * rs.length → ∀ r ∈ rs, r.length = 3
  | [], _, _, r, hr => by simp at hr
  | x :: rs, h, hs, r, hr => by
    have hge : ∀ {rs : List (List Int)}, (∀ r ∈ rs, 3 ≤ r.length) → 3 * rs.length ≤ sumLen rs := by
      intro rs
      induction rs with
      | nil => intro _; simp
      | cons y rs ih =>
        intro h
        rw [sumLen_cons, List.length_cons]
        have := h y List.mem_cons_self
        have := ih (fun r hr => h r (List.mem_cons_of_mem _ hr))
        omega
    rw [sumLen_cons, List.length_cons] at hs
    have h1 := h x List.mem_cons_self
    have h2 := hge (fun r hr => h r (List.mem_cons_of_mem x hr))
    rcases List.mem_cons.1 hr with rfl | hr
    · omega
    · exact all_three (fun r hr => h r (List.mem_cons_of_mem x hr)) (by omega) r hr
theorem tri_plane {n : Int} {l : List Ch} (h : tri n l = true) : plane n l = true := by
  unfold tri at h; rw [Bool.and_eq_true, Bool.and_eq_true] at h; exact h.1.1
theorem tri_len {n : Int} {l : List Ch} (h : tri n l = true) : (l.length : Int) = n - 3 := by
  unfold tri at h; rw [Bool.and_eq_true, Bool.and_eq_true] at h; simpa using h.1.2
theorem tri_diag {n : Int} {l : List Ch} (h : tri n l = true) : ∀ c ∈ l, diagC n c = true := by
  unfold tri at h; rw [Bool.and_eq_true] at h; exact List.all_eq_true.1 h.2
/-- A set of as_ many diagonals as_ leaves triangles leaves triangles. -/
theorem face_tri {n : Int} {l : List Ch} {q : Option Ch} (h : NC n l) (hnd : l.Nodup) (hn : 3 ≤ n) (hd : ∀ c ∈ l, diagC n c = true) (hl : (l.length : Int) = n - 3) (hq : ∀ d, q = some d → d ∈ l) : (face n l q).length = 3 := by
  refine all_three (rs := (ids l).map (face n l)) (fun r hr => ?_) ?_ _ (List.mem_map.2 ⟨q, mem_ids.2 hq, rfl⟩)
  · obtain ⟨q', hq', e⟩ := List.mem_map.1 hr
    rw [← e]
    exact face_three h hn hd (mem_ids.1 hq')
  · rw [face_sum h hnd, List.length_map]
    unfold ids
    rw [List.length_cons, List.length_map]
    omega
theorem three_all {l : List Int} (hs : l.Pairwise (· < ·)) (hl : l.length = 3) {a b c : Int} (ha : a ∈ l) (hb : b ∈ l) (hc : c ∈ l) (h1 : a < b) (h2 : b < c) : l = [a, b, c] := by
  match l, hl, hs with
  | [u, v, w], _, hs =>
    simp at hs ha hb hc
    have : u = a ∧ v = b ∧ w = c := by omega
    rw [this.1, this.2.1, this.2.2]
theorem sorted_ext : ∀ {a b : List Int}, a.Pairwise (· < ·) → b.Pairwise (· < ·) → (∀ x, x ∈ a ↔ x ∈ b) → a = b
  | [], [], _, _, _ => rfl
  | [], y :: b, _, _, h => by have := (h y).2 List.mem_cons_self; simp at this
  | x :: a, [], _, _, h => by have := (h x).1 List.mem_cons_self; simp at this
  | x :: a, y :: b, ha, hb, h => by
    rw [List.pairwise_cons] at ha hb
    have hxy : x = y := by
      rcases List.mem_cons.1 ((h x).1 List.mem_cons_self) with e | e
      · exact e
      · rcases List.mem_cons.1 ((h y).2 List.mem_cons_self) with e' | e'
        · exact e'.symm
        · have := hb.1 x e; have := ha.1 y e'; omega
    subst hxy
    rw [sorted_ext ha.2 hb.2 (fun z => ?_)]
    constructor
    · intro hz
      rcases List.mem_cons.1 ((h z).1 (List.mem_cons_of_mem _ hz)) with e | e
      · have := ha.1 z hz; omega
      · exact e
    · intro hz
      rcases List.mem_cons.1 ((h z).2 (List.mem_cons_of_mem _ hz)) with e | e
      · have := hb.1 z hz; omega
      · exact e
/-! ### what points are joined -/
def mkCh (p q : Int) : Ch := if p < q then ⟨p, q⟩ else ⟨q, p⟩
def joined (n : Int) (l : List Ch) (p q : Int) : Bool := decide (p ≠ q) && (!diagC n (mkCh p q) || l.contains (mkCh p q))
theorem joined_lt {n : Int} {l : List Ch} {p q : Int} (h : p < q) : joined n l p q = true ↔ (q - p ≤ 1 ∨ n - 1 ≤ q - p ∨ (⟨p, q⟩ : Ch) ∈ l) := by
  unfold joined mkCh diagC
  rw [if_pos h]
  simp only [Bool.and_eq_true, Bool.or_eq_true, Bool.not_eq_true', decide_eq_true_iff, decide_eq_false_iff_not, List.contains_iff_mem]
  constructor
  · rintro ⟨_, h2 | h2⟩
    · omega
    · exact .inr (.inr h2)
  · intro h2
    refine ⟨by omega, ?_⟩
    rcases h2 with h2 | h2 | h2
    · exact .inl (by omega)
    · exact .inl (by omega)
    · exact .inr h2
theorem joined_gt {n : Int} {l : List Ch} {p q : Int} (h : q < p) : joined n l p q = true ↔ (p - q ≤ 1 ∨ n - 1 ≤ p - q ∨ (⟨q, p⟩ : Ch) ∈ l) := by
  rw [← joined_lt h]
  unfold joined mkCh
  rw [if_neg (by omega), if_pos h, decide_eq_true (show p ≠ q by omega), decide_eq_true (show q ≠ p by omega)]
theorem joined_in {n : Int} {l : List Ch} {c : Ch} {z : Int} (h : NC n l) (hc : c ∈ l) (hz : c.f0 < z ∧ z < c.f1) (j1 : joined n l z c.f0 = true) (j2 : joined n l z c.f1 = true) : InF l (some c) z := by
  refine ⟨⟨by omega, by omega⟩, fun d hd hb hzd => ?_⟩
  have hco := h.ok c hc
  obtain ⟨hne, hb1, hb2⟩ := hb
  rw [joined_gt hz.1] at j1
  rw [joined_lt hz.2] at j2
  have e0 : d.f0 = c.f0 := by
    rcases j1 with j | j | j
    · omega
    · omega
    · have : ¬ (c.f0 < d.f0 ∧ d.f0 < z ∧ z < d.f1) := h.nc _ j d hd
      omega
  have e1 : d.f1 = c.f1 := by
    rcases j2 with j | j | j
    · omega
    · omega
    · have : ¬ (d.f0 < z ∧ z < d.f1 ∧ d.f1 < c.f1) := h.nc d hd _ j
      omega
  exact hne (ch_ext e0 e1)
theorem joined_out {n : Int} {l : List Ch} {c : Ch} {z : Int} {p : Option Ch} (h : NC n l) (hc : c ∈ l) (hp : ∀ d, p = some d → d ∈ l) (hb : below_ c p) (h0 : InF l p c.f0) (h1 : InF l p c.f1)
    (hz : 0 ≤ z ∧ z < n) (ho : z < c.f0 ∨ c.f1 < z) (j1 : joined n l z c.f0 = true) (j2 : joined n l z c.f1 = true) : InF l p z := by
  have hco := h.ok c hc
  rcases ho with ho | ho
  · rw [joined_lt ho] at j1
    rw [joined_lt (show z < c.f1 by omega)] at j2
    refine ⟨?_, fun d hd hbd hzd => ?_⟩
    · cases p with
      | none => trivial
      | some e =>
        have he := hp e rfl
        have heo := h.ok e he
        obtain ⟨hne, hb1, hb2⟩ := hb
        show e.f0 ≤ z ∧ z ≤ e.f1
        refine Classical.byContradiction fun hcon => ?_
        have hlt : z < e.f0 := by omega
        have e1 : c.f1 = e.f1 := by
          rcases j2 with j | j | j
          · omega
          · omega
          · have : ¬ (z < e.f0 ∧ e.f0 < c.f1 ∧ c.f1 < e.f1) := h.nc _ j e he
            omega
        have e0 : c.f0 = e.f0 := by
          rcases j1 with j | j | j
          · omega
          · omega
          · have : ¬ (z < e.f0 ∧ e.f0 < c.f0 ∧ c.f0 < e.f1) := h.nc _ j e he
            omega
        exact hne (ch_ext e0 e1)
    · have hdo := h.ok d hd
      have g1 : c.f0 ≤ d.f1 := by
        rcases j1 with j | j | j
        · omega
        · omega
        · have : ¬ (d.f0 < z ∧ z < d.f1 ∧ d.f1 < c.f0) := h.nc d hd _ j
          omega
      have g2 : c.f1 ≤ d.f1 := by
        rcases j2 with j | j | j
        · omega
        · omega
        · have : ¬ (d.f0 < z ∧ z < d.f1 ∧ d.f1 < c.f1) := h.nc d hd _ j
          omega
      exact h0.2 d hd hbd ⟨by omega, by omega⟩
  · rw [joined_gt (show c.f0 < z by omega)] at j1
    rw [joined_gt ho] at j2
    refine ⟨?_, fun d hd hbd hzd => ?_⟩
    · cases p with
      | none => trivial
      | some e =>
        have he := hp e rfl
        have heo := h.ok e he
        obtain ⟨hne, hb1, hb2⟩ := hb
        show e.f0 ≤ z ∧ z ≤ e.f1
        refine Classical.byContradiction fun hcon => ?_
        have hlt : e.f1 < z := by omega
        have e1 : c.f1 = e.f1 := by
          rcases j2 with j | j | j
          · omega
          · omega
          · have : ¬ (e.f0 < c.f1 ∧ c.f1 < e.f1 ∧ e.f1 < z) := h.nc e he _ j
            omega
        have e0 : c.f0 = e.f0 := by
          rcases j1 with j | j | j
          · omega
          · omega
          · have : ¬ (e.f0 < c.f0 ∧ c.f0 < e.f1 ∧ e.f1 < z) := h.nc e he _ j
            omega
        exact hne (ch_ext e0 e1)
    · have hdo := h.ok d hd
      have g1 : d.f0 ≤ c.f1 := by
        rcases j2 with j | j | j
        · omega
        · omega
        · have : ¬ (c.f1 < d.f0 ∧ d.f0 < z ∧ z < d.f1) := h.nc _ j d hd
          omega
      have g2 : d.f0 ≤ c.f0 := by
        rcases j1 with j | j | j
        · omega
        · omega
        · have : ¬ (c.f0 < d.f0 ∧ d.f0 < z ∧ z < d.f1) := h.nc _ j d hd
          omega
      exact h1.2 d hd hbd ⟨by omega, by omega⟩
theorem hi_of_in {n : Int} {l : List Ch} {q : Option Ch} {x : Int} (hx : InF l q x) (h0 : x < n) : x ≤ hiOf n q := by
  cases q with
  | none => simp only [hiOf]; omega
  | some c => exact hx.1.2
/-- Two points of a region with none between them are joined. -/
theorem step_joined {n : Int} {l : List Ch} {q : Option Ch} (h : NC n l) (hq : ∀ d, q = some d → d ∈ l) {a b : Int} (h0 : 0 ≤ a) (hab : a < b) (hb : b < n) (ia : InF l q a) (ib : InF l q b) (hno : ∀ x, a < x → x < b → ¬ InF l q x) : b - a ≤ 1 ∨ (⟨a, b⟩ : Ch) ∈ l := by
  have hhi := hi_of_in ib hb
  by_cases hg : nextOf (hiOf n q) q a l a > a
  · obtain ⟨j1, j2, j3, j4⟩ := jump h hq h0 ia hg
    have e : nextOf (hiOf n q) q a l a = b := by
      rcases Int.lt_trichotomy (nextOf (hiOf n q) q a l a) b with g | g | g
      · exact absurd j3 (hno _ hg g)
      · exact g
      · exact absurd ib (j4 b hab g)
    rw [e] at j1
    exact .inr j1
  · obtain ⟨j1, _⟩ := stride h hq h0 ia (by omega) hg
    rcases Int.lt_trichotomy (a + 1) b with g | g | g
    · exact absurd j1 (hno _ (by omega) g)
    · exact .inl (by omega)
    · exact .inl (by omega)
/-- The whole row of points of a region of a set that leaves triangles, beside a chord, inside. -/
theorem inner_eq {n : Int} {l : List Ch} {c : Ch} (h : NC n l) (hnd : l.Nodup) (hn : 3 ≤ n) (hd : ∀ c ∈ l, diagC n c = true) (hl : (l.length : Int) = n - 3) (hc : c ∈ l) : ∃ x, c.f0 < x ∧ x < c.f1 ∧ face n l (some c) = [c.f0, x, c.f1] := by
  have hq : ∀ d, some c = some d → d ∈ l := fun d e => Option.some.inj e ▸ hc
  have hco := h.ok c hc
  obtain ⟨a0, a1, a2, a3, a4⟩ := lo_in (q := some c) h (by omega) hq
  simp only [loOf, hiOf] at a0 a1 a2 a3 a4
  have hdg := hd c hc
  unfold diagC at hdg
  rw [decide_eq_true_iff] at hdg
  obtain ⟨x, x1, x2, x3⟩ := third h hn hc (by omega)
  exact ⟨x, x1, x2, three_all (face_lt _ _ _) (face_tri h hnd hn hd hl hq) (mem_face.2 ⟨⟨by omega, by omega⟩, a3⟩) (mem_face.2 ⟨⟨by omega, by omega⟩, x3⟩) (mem_face.2 ⟨⟨by omega, by omega⟩, a4⟩) x1 x2⟩
def others (n : Int) (l : List Ch) (c : Ch) : List Int := (ints 0 n.toNat).filter fun p => decide (p ≠ c.f0) && decide (p ≠ c.f1) && joined n l p c.f0 && joined n l p c.f1
theorem mem_others {n : Int} {l : List Ch} {c : Ch} {z : Int} : z ∈ others n l c ↔ (0 ≤ z ∧ z < n) ∧ z ≠ c.f0 ∧ z ≠ c.f1 ∧ joined n l z c.f0 = true ∧ joined n l z c.f1 = true := by
  unfold others
  rw [List.mem_filter, mem_ints]
  simp only [Bool.and_eq_true, decide_eq_true_iff]
  constructor
  · rintro ⟨h1, ⟨⟨h2, h3⟩, h4⟩, h5⟩; exact ⟨by omega, h2, h3, h4, h5⟩
  · rintro ⟨h1, h2, h3, h4, h5⟩; exact ⟨by omega, ⟨⟨h2, h3⟩, h4⟩, h5⟩
/-- The two triangles beside a diagonal: the points that are joined to both its ends, and the region of four points that is there without it. -/
theorem flip_facts {n : Int} {l rest : List Ch} {c : Ch} (h : NC n l) (hnd : l.Nodup) (hn : 3 ≤ n) (hd : ∀ c ∈ l, diagC n c = true) (hl : (l.length : Int) = n - 3) (hm : ∀ d, d ∈ l ↔ d ∈ rest ++ [c]) (hcr : c ∉ rest) :
    ∃ (x y : Int) (p : Option Ch), c.f0 < x ∧ x < c.f1 ∧ 0 ≤ y ∧ y < n ∧ (y < c.f0 ∨ c.f1 < y) ∧ others n l c = (if y < x then [y, x] else [x, y]) ∧ (∀ d, p = some d → d ∈ rest) ∧
      face n rest p = (if y < c.f0 then [y, c.f0, x, c.f1] else [c.f0, x, c.f1, y]) ∧ ∀ q, (∀ d, q = some d → d ∈ rest) → InF rest q c.f0 → InF rest q c.f1 → q = p := by
  have hcl : c ∈ l := (hm c).2 (by simp)
  have hco := h.ok c hcl
  have hsub : ∀ d, d ∈ rest → d ∈ l := fun d hd => (hm d).2 (List.mem_append_left _ hd)
  have hN : NC n (c :: rest) := h.sub (fun d hd => by
    rcases List.mem_cons.1 hd with rfl | hd
    · exact hcl
    · exact hsub d hd)
  have hNr : NC n rest := h.sub hsub
  obtain ⟨p, hp, hb, h0, h1⟩ := home hN hcr (meas n none) none (fun d hd => by cases hd) (Nat.le_refl _) trivial
  have hpl : ∀ d, p = some d → d ∈ l := fun d e => hsub d (hp d e)
  obtain ⟨x, x1, x2, hin⟩ := inner_eq h hnd hn hd hl hcl
  have hq : ∀ d, some c = some d → d ∈ l := fun d e => Option.some.inj e ▸ hcl
  have hIin : ∀ z, InF l (some c) z ↔ InF rest p z ∧ (c.f0 ≤ z ∧ z ≤ c.f1) := fun z => by
    rw [InF_congr hm, part_in hN hcr hp hb h0 h1]
  have hIout : ∀ z, InF l p z ↔ InF rest p z ∧ (z ≤ c.f0 ∨ c.f1 ≤ z) := fun z => by
    rw [InF_congr hm, part_out hN hb]
  have g0 : InF l p c.f0 := (hIout _).2 ⟨h0, .inl (Int.le_refl _)⟩
  have g1 : InF l p c.f1 := (hIout _).2 ⟨h1, .inr (Int.le_refl _)⟩
  have hin' : ∀ z, 0 ≤ z → z < n → (InF l (some c) z ↔ z = c.f0 ∨ z = x ∨ z = c.f1) := fun z z0 z1 => by
    have := @mem_face n l (some c) z
    rw [hin] at this
    simp only [List.mem_cons, List.not_mem_nil, or_false] at this
    rw [this]
    constructor
    · intro hz; exact ⟨⟨z0, z1⟩, hz⟩
    · intro hz; exact hz.2
  have hout3 := face_tri h hnd hn hd hl hpl
  have m0 : c.f0 ∈ face n l p := mem_face.2 ⟨⟨by omega, by omega⟩, g0⟩
  have m1 : c.f1 ∈ face n l p := mem_face.2 ⟨⟨by omega, by omega⟩, g1⟩
  have hsort := face_lt n l p
  have hy : ∃ y, y ∈ face n l p ∧ y ≠ c.f0 ∧ y ≠ c.f1 := by
    generalize face n l p = F at hout3 m0 m1 hsort
    match F, hout3, hsort with
    | [u, v, w], _, hs =>
      simp at hs m0 m1
      by_cases e1 : u = c.f0
      · by_cases e2 : v = c.f1
        · exact ⟨w, by simp, by omega, by omega⟩
        · exact ⟨v, by simp, by omega, e2⟩
      · exact ⟨u, by simp, e1, by omega⟩
  obtain ⟨y, my, y1, y2⟩ := hy
  have iy := (mem_face.1 my).2
  have y0 := (mem_face.1 my).1
  have yo : y < c.f0 ∨ c.f1 < y := by
    have := ((hIout y).1 iy).2
    omega
  have hfo : face n l p = (if y < c.f0 then [y, c.f0, c.f1] else [c.f0, c.f1, y]) := by
    by_cases hlt : y < c.f0
    · rw [if_pos hlt]; exact three_all hsort hout3 my m0 m1 hlt hco.2.1
    · rw [if_neg hlt]; exact three_all hsort hout3 m0 m1 my hco.2.1 (by omega)
  have hout' : ∀ z, 0 ≤ z → z < n → (InF l p z ↔ z = c.f0 ∨ z = y ∨ z = c.f1) := fun z z0 z1 => by
    have := @mem_face n l p z
    rw [hfo] at this
    have h2 : z ∈ (if y < c.f0 then [y, c.f0, c.f1] else [c.f0, c.f1, y]) ↔ (z = c.f0 ∨ z = y ∨ z = c.f1) := by
      split <;> simp only [List.mem_cons, List.not_mem_nil, or_false] <;> omega
    rw [h2] at this
    rw [this]
    constructor
    · intro hz; exact ⟨⟨z0, z1⟩, hz⟩
    · intro hz; exact hz.2
  have hrest : ∀ z, 0 ≤ z → z < n → (InF rest p z ↔ z = c.f0 ∨ z = x ∨ z = c.f1 ∨ z = y) := fun z z0 z1 => by
    have k1 := hIin z
    have k2 := hIout z
    rw [hin' z z0 z1] at k1
    rw [hout' z z0 z1] at k2
    constructor
    · intro hz
      by_cases hzz : c.f0 ≤ z ∧ z ≤ c.f1
      · have := k1.2 ⟨hz, hzz⟩; omega
      · have := k2.2 ⟨hz, by omega⟩; omega
    · intro hz
      rcases hz with e | e | e | e
      · exact (k1.1 (.inl e)).1
      · exact (k1.1 (.inr (.inl e))).1
      · exact (k1.1 (.inr (.inr e))).1
      · exact (k2.1 (.inr (.inl e))).1
  obtain ⟨b0, b1, b2, b3, b4⟩ := lo_in (q := p) h (by omega) hpl
  have hloy : loOf p = c.f0 ∨ loOf p = y ∨ loOf p = c.f1 := (hout' _ b0 (by omega)).1 b3
  have hhiy : hiOf n p = c.f0 ∨ hiOf n p = y ∨ hiOf n p = c.f1 := (hout' _ (by omega) b2).1 b4
  have l1 := lo_of_in h hpl g0 (by omega)
  have l2 := lo_of_in h hpl iy (by omega)
  have u1 := hi_of_in (n := n) g1 (by omega)
  have u2 := hi_of_in (n := n) iy (by omega)
  have hlohi : n - 1 ≤ hiOf n p - loOf p ∨ (⟨loOf p, hiOf n p⟩ : Ch) ∈ l := by
    cases p with
    | none => left; simp only [hiOf, loOf]; omega
    | some e => right; exact hpl e rfl
  refine ⟨x, y, p, x1, x2, y0.1, y0.2, yo, ?_, hp, ?_, ?_⟩
  · refine sorted_ext ((ints_lt 0 _).filter _) (by split <;> simp <;> omega) (fun z => ?_)
    have hmem : z ∈ (if y < x then [y, x] else [x, y]) ↔ z = x ∨ z = y := by
      split <;> simp only [List.mem_cons, List.not_mem_nil, or_false] <;> omega
    rw [hmem]
    show z ∈ others n l c ↔ _
    rw [mem_others]
    constructor
    · rintro ⟨z0, z1, z2, j1, j2⟩
      by_cases hzz : c.f0 < z ∧ z < c.f1
      · have := (hin' z z0.1 z0.2).1 (joined_in h hcl hzz j1 j2)
        omega
      · have := (hout' z z0.1 z0.2).1 (joined_out h hcl hpl hb g0 g1 z0 (by omega) j1 j2)
        omega
    · rintro (rfl | rfl)
      · have ix := (hin' z (by omega) (by omega)).2 (.inr (.inl rfl))
        have i0 := (hin' c.f0 (by omega) (by omega)).2 (.inl rfl)
        have i1 := (hin' c.f1 (by omega) (by omega)).2 (.inr (.inr rfl))
        refine ⟨⟨by omega, by omega⟩, by omega, by omega, ?_, ?_⟩
        · rw [joined_gt x1]
          rcases step_joined h hq (by omega) x1 (by omega) i0 ix (fun v v1 v2 hv => by have := (hin' v (by omega) (by omega)).1 hv; omega) with j | j
          · exact .inl j
          · exact .inr (.inr j)
        · rw [joined_lt x2]
          rcases step_joined h hq (by omega) x2 (by omega) ix i1 (fun v v1 v2 hv => by have := (hin' v (by omega) (by omega)).1 hv; omega) with j | j
          · exact .inl j
          · exact .inr (.inr j)
      · refine ⟨y0, y1, y2, ?_, ?_⟩
        · rcases yo with yo | yo
          · rw [joined_lt yo]
            rcases step_joined h hpl (by omega) yo (by omega) iy g0 (fun v v1 v2 hv => by have := (hout' v (by omega) (by omega)).1 hv; omega) with j | j
            · exact .inl j
            · exact .inr (.inr j)
          · rw [joined_gt (by omega)]
            have e1 : loOf p = c.f0 := by omega
            have e2 : hiOf n p = z := by omega
            rw [e1, e2] at hlohi
            exact .inr hlohi
        · rcases yo with yo | yo
          · rw [joined_lt (by omega)]
            have e1 : loOf p = z := by omega
            have e2 : hiOf n p = c.f1 := by omega
            rw [e1, e2] at hlohi
            exact .inr hlohi
          · rw [joined_gt yo]
            rcases step_joined h hpl (by omega) yo (by omega) g1 iy (fun v v1 v2 hv => by have := (hout' v (by omega) (by omega)).1 hv; omega) with j | j
            · exact .inl j
            · exact .inr (.inr j)
  · refine sorted_ext (face_lt _ _ _) (by split <;> simp <;> omega) (fun z => ?_)
    rw [mem_face]
    have hmem : z ∈ (if y < c.f0 then [y, c.f0, x, c.f1] else [c.f0, x, c.f1, y]) ↔ (z = c.f0 ∨ z = x ∨ z = c.f1 ∨ z = y) := by
      split <;> simp only [List.mem_cons, List.not_mem_nil, or_false] <;> omega
    rw [hmem]
    constructor
    · rintro ⟨⟨z0, z1⟩, hz⟩; exact (hrest z z0 z1).1 hz
    · intro hz
      have zb : 0 ≤ z ∧ z < n := by omega
      exact ⟨zb, (hrest z zb.1 zb.2).2 hz⟩
  · intro q hq2 i0 i1
    refine Classical.byContradiction fun hne => ?_
    obtain ⟨d, hd2, e0, e1, _⟩ := shared hNr hq2 hp hne hco.2.1 i0 i1 h0 h1
    exact hcr (ch_ext e0 e1 ▸ hd2)
end Go.Proofs.Yteeghncofacmhaa.Q
end
section
namespace Go.Proofs.Yteeghncofacmhaa.Q
open Go.RowKit Go.Proofs.YteeghncofacmhaaW.PrintWords Go.Proofs.YteeghncofacmhaaW.PrintLast Go.Proofs.YteeghncofacmhaaW.PrintMore
attribute [local go_sem] max2_int min2_int max_two min_two max_three min_three max_four min_four   -- for this text's walks alone
set_option linter.unusedVariables false
set_option linter.unusedSimpArgs false
attribute [local go_sem high] eqA64
/-! ### impl_Chord_116: function 116 -/
def impl_Chord_116.l0 : Nat → List (S64) → Int → Int → Int → Int → Option (Int)
  | 0, _, _, _, _, _ => none
  | k + 1, x0, x7, x8, x102000, x102001 => if x8 < x7 then (if 0 ≤ x8 then (if x8 < (x0.length : Int) then (if (x102000 == ((rd_T64 x0 x8).f0) && (x102001 == ((rd_T64 x0 x8).f1))) = true then (some x8) else (impl_Chord_116.l0 k x0 x7 (wrap64 (x8 + 1)) x102000 x102001)) else (none)) else (none)) else (some (-1))
def impl_Chord_116.f (k : Nat) (l0 : List (S64)) (a1_0 : Int) (a1_1 : Int) : Option (Int) := impl_Chord_116.l0 k l0 (l0.length : Int) 0 a1_0 a1_1
set_option maxHeartbeats 8000000 in
set_option maxRecDepth 100000 in
theorem impl_Chord_116.calls (k : Nat) (A0 : Option Addr) (c0 : Nat) (l0 : List (S64)) (a1_0 : Int) (a1_1 : Int) (r : Int) (w : World) (hr0 : Kd.C k64 w A0 l0.length l0) (hc0 : l0.length ≤ c0) (h : impl_Chord_116.f k l0 a1_0 a1_1 = some r) :
    Calls Try.prog 116 #[.slice A0 l0.length c0, .agg #[.int .i64 a1_0, .int .i64 a1_1]] w fun e w' => e = .returned (.int .i64 r) ∧ Below w.heap.size w w' := by
  have hu64 := Try.underlying64
  have HR0 := Aside0.mk hr0
  have HC0 := Aside0.mk hc0
  clear hr0 hc0
  have HB := Aside0.mk (Below.refl w.heap.size w)
  have H : (impl_Chord_116.l0 k l0 (l0.length : Int) 0 a1_0 a1_1) = some r := h
  clear h
  have H' := Aside0.mk H
  clear H
  go_enter Try.func116, Try.ntmps116
  go_wp2_with (first | ((with_reducible refine gate_dst (N := 3) rfl ?_); refine box_event ?hg (N := 3) ?hd (cs := #[.int .i64 a1_0, .int .i64 a1_1]) (t := 64) ?hr ?_; (case hd => rfl); (case hg => rfl); (case hr => first | (go_simp; done) | (go_simp; rfl)); intro gb101 hg w3 hbox hb; have n0_ := Aside0.mk (below_step (by repeat (first | (with_reducible first | exact HB.out | apply below_alloc | apply pw_below_drewN | apply below_drew1) | exact HB.out)) hb); have n1_ := Aside0.mk (hbox); have n2_ := Aside0.mk ((by rw [hg]; exact (below_size (by repeat (first | (with_reducible first | exact HB.out | apply below_alloc | apply pw_below_drewN | apply below_drew1) | exact HB.out))) : w.heap.size ≤ gb101)); have n3_ := Aside0.mk ((by rw [hg]; exact (below_size (by repeat (first | (with_reducible first | exact HB.out | apply below_alloc | apply pw_below_drewN | apply below_drew1) | exact HB.out))) : w.heap.size ≤ gb101)); clear HB; have HB := n0_; have BK101 := n1_; have GW101 := n2_; have GE101 := n3_; clear n0_ n1_ n2_ n3_; clear hb hbox hg))
  repeat (go_quiet (first | ((with_reducible refine gate_dst (N := 3) rfl ?_); refine box_event ?hg (N := 3) ?hd (cs := #[.int .i64 a1_0, .int .i64 a1_1]) (t := 64) ?hr ?_; (case hd => rfl); (case hg => rfl); (case hr => first | (go_simp; done) | (go_simp; rfl)); intro gb101 hg w3 hbox hb; have n0_ := Aside0.mk (below_step (by repeat (first | (with_reducible first | exact HB.out | apply below_alloc | apply pw_below_drewN | apply below_drew1) | exact HB.out)) hb); have n1_ := Aside0.mk (hbox); have n2_ := Aside0.mk ((by rw [hg]; exact (below_size (by repeat (first | (with_reducible first | exact HB.out | apply below_alloc | apply pw_below_drewN | apply below_drew1) | exact HB.out))) : w.heap.size ≤ gb101)); have n3_ := Aside0.mk ((by rw [hg]; exact (below_size (by repeat (first | (with_reducible first | exact HB.out | apply below_alloc | apply pw_below_drewN | apply below_drew1) | exact HB.out))) : w.heap.size ≤ gb101)); clear HB; have HB := n0_; have BK101 := n1_; have GW101 := n2_; have GE101 := n3_; clear n0_ n1_ n2_ n3_; clear hb hbox hg)); try go_wp2_with (first | ((with_reducible refine gate_dst (N := 3) rfl ?_); refine box_event ?hg (N := 3) ?hd (cs := #[.int .i64 a1_0, .int .i64 a1_1]) (t := 64) ?hr ?_; (case hd => rfl); (case hg => rfl); (case hr => first | (go_simp; done) | (go_simp; rfl)); intro gb101 hg w3 hbox hb; have n0_ := Aside0.mk (below_step (by repeat (first | (with_reducible first | exact HB.out | apply below_alloc | apply pw_below_drewN | apply below_drew1) | exact HB.out)) hb); have n1_ := Aside0.mk (hbox); have n2_ := Aside0.mk ((by rw [hg]; exact (below_size (by repeat (first | (with_reducible first | exact HB.out | apply below_alloc | apply pw_below_drewN | apply below_drew1) | exact HB.out))) : w.heap.size ≤ gb101)); have n3_ := Aside0.mk ((by rw [hg]; exact (below_size (by repeat (first | (with_reducible first | exact HB.out | apply below_alloc | apply pw_below_drewN | apply below_drew1) | exact HB.out))) : w.heap.size ≤ gb101)); clear HB; have HB := n0_; have BK101 := n1_; have GW101 := n2_; have GE101 := n3_; clear n0_ n1_ n2_ n3_; clear hb hbox hg)))
  go_loopg [8] k (fun kq v8 w' => ∃ (x8_1 : Int), v8 = .int .i64 x8_1 ∧ Aside0 (impl_Chord_116.l0 kq l0 (l0.length : Int) x8_1 a1_0 a1_1 = some r) ∧ Aside0 (kq ≤ k) ∧ Aside0 (w'.heap[gb101]? = some (.cells #[.int .i64 a1_0, .int .i64 a1_1] 64 (0, 0))) ∧ Aside0 (Below w.heap.size w w'))
  case atStart => exact ⟨(0), (by first | rfl | (simp; done) | (simp [*]; done)), H', ⟨Nat.le_refl _⟩, ⟨by (with_reducible repeat (first | refine blk_drewN ?_ _ | refine blk_drew ?_ | refine blk_alloc ?_ _)); exact BK101.out⟩, ⟨by repeat (first | (with_reducible first | exact HB.out | apply below_alloc | apply pw_below_drewN | apply below_drew1 | refine below_set ?_ GE101.out) | exact HB.out)⟩⟩
  case round =>
    clear H'
    try clear c1
    try clear p2
    obtain ⟨x8_1, rfl, HA, HK1, BK101, HB⟩ := hrel
    cases gk with
    | zero => exact absurd HA.out (by simp [impl_Chord_116.l0])
    | succ k1 =>
      have H := HA.out
      clear HA
      simp only [impl_Chord_116.l0] at H
      by_cases c4 : x8_1 < (l0.length : Int)
      · rw [if_pos c4] at H
        have c4b0 : decide (x8_1 < (l0.length : Int)) = true := decide_eq_true c4
        clear c4
        by_cases c5 : 0 ≤ x8_1
        · rw [if_pos c5] at H
          have c5b0 : decide (0 ≤ x8_1) = true := decide_eq_true c5
          clear c5
          by_cases c6 : x8_1 < (l0.length : Int)
          · rw [if_pos c6] at H
            have c6b0 : decide (x8_1 < (l0.length : Int)) = true := decide_eq_true c6
            clear c6
            by_cases c7 : (a1_0 == ((rd_T64 l0 x8_1).f0) && (a1_1 == ((rd_T64 l0 x8_1).f1))) = true
            · rw [if_pos c7] at H
              have c7b0 : (a1_0 == ((rd_T64 l0 x8_1).f0) && (a1_1 == ((rd_T64 l0 x8_1).f1))) = true := c7
              (try (have c7b1 : decide (a1_0 = ((rd_T64 l0 x8_1).f0) && (a1_1 == ((rd_T64 l0 x8_1).f1))) = true := by simpa using c7))
              (try (have c7b2 : (a1_0 == ((rd_T64 l0 x8_1).f0) && (a1_1 == ((rd_T64 l0 x8_1).f1))) = true := by simpa using c7))
              clear c7
              obtain rfl := Option.some.inj H
              have hcz8_0 : wr.cell? ⟨gb101, 0, none⟩ = some (.int .i64 a1_0) := (blk_cell BK101.out 0).trans rfl
              have hcz8_1 : wr.cell? ⟨gb101, 1, none⟩ = some (.int .i64 a1_1) := (blk_cell BK101.out 1).trans rfl
              have hfz8_0 := blk_frozen BK101.out 0
              have hfz8_1 := blk_frozen BK101.out 1
              have p102 : 0 ≤ (x8_1 : Int) := of_decide_eq_true (by first | (with_reducible assumption) | assumption)
              have q102 : x8_1 < (l0.length : Int) := of_decide_eq_true (by first | (with_reducible assumption) | assumption)
              obtain ⟨ad102, e102, hx102_0, hx102_1⟩ := at_T64 HR0.out x8_1 p102 q102
              cases e102
              try replace hx102_0 := (HB.out.cell (World.block_lt_of_cell? w _ hx102_0)).trans hx102_0
              try replace hx102_1 := (HB.out.cell (World.block_lt_of_cell? w _ hx102_1)).trans hx102_1
              replace p102 := eq_true p102
              replace q102 := eq_true q102
              go_wp2
              repeat (go_quiet (fail); try go_wp2)
              go_ret
              exact ⟨by first | rfl | (simp [errW_none, errW_some] <;> rfl) | (simp [*, errW_none, errW_some] <;> rfl), by repeat (first | (with_reducible first | exact HB.out | apply below_alloc | apply pw_below_drewN | apply below_drew1 | refine below_set ?_ GE101.out) | exact HB.out)⟩
            · rw [if_neg c7] at H
              have c7b0 : (a1_0 == ((rd_T64 l0 x8_1).f0) && (a1_1 == ((rd_T64 l0 x8_1).f1))) = false := by simpa using c7
              (try (have c7b1 : decide (a1_0 = ((rd_T64 l0 x8_1).f0) && (a1_1 == ((rd_T64 l0 x8_1).f1))) = false := by simpa using c7))
              (try (have c7b2 : (a1_0 == ((rd_T64 l0 x8_1).f0) && (a1_1 == ((rd_T64 l0 x8_1).f1))) = false := by simpa using c7))
              (try (have c7b3 : ¬ (a1_0 = ((rd_T64 l0 x8_1).f0) && (a1_1 == ((rd_T64 l0 x8_1).f1))) := by simpa using c7))
              clear c7
              have H' := Aside0.mk H
              clear H
              have hcz9_0 : wr.cell? ⟨gb101, 0, none⟩ = some (.int .i64 a1_0) := (blk_cell BK101.out 0).trans rfl
              have hcz9_1 : wr.cell? ⟨gb101, 1, none⟩ = some (.int .i64 a1_1) := (blk_cell BK101.out 1).trans rfl
              have hfz9_0 := blk_frozen BK101.out 0
              have hfz9_1 := blk_frozen BK101.out 1
              have p102 : 0 ≤ (x8_1 : Int) := of_decide_eq_true (by first | (with_reducible assumption) | assumption)
              have q102 : x8_1 < (l0.length : Int) := of_decide_eq_true (by first | (with_reducible assumption) | assumption)
              obtain ⟨ad102, e102, hx102_0, hx102_1⟩ := at_T64 HR0.out x8_1 p102 q102
              cases e102
              try replace hx102_0 := (HB.out.cell (World.block_lt_of_cell? w _ hx102_0)).trans hx102_0
              try replace hx102_1 := (HB.out.cell (World.block_lt_of_cell? w _ hx102_1)).trans hx102_1
              replace p102 := eq_true p102
              replace q102 := eq_true q102
              go_wp2
              repeat (go_quiet (fail); try go_wp2)
              go_roundg k1
              case measure => have := HK1.out; omega
              case rel => exact ⟨(wrap64 (x8_1 + 1)), (by first | rfl | (simp; done) | (simp [*]; done)), H', ⟨by have := HK1.out; omega⟩, ⟨by (with_reducible repeat (first | refine blk_drewN ?_ _ | refine blk_drew ?_ | refine blk_alloc ?_ _)); exact BK101.out⟩, ⟨by repeat (first | (with_reducible first | exact HB.out | apply below_alloc | apply pw_below_drewN | apply below_drew1 | refine below_set ?_ GE101.out) | exact HB.out)⟩⟩
          · rw [if_neg c6] at H
            exact absurd H (by simp)
        · rw [if_neg c5] at H
          exact absurd H (by simp)
      · rw [if_neg c4] at H
        have c4b0 : decide (x8_1 < (l0.length : Int)) = false := decide_eq_false c4
        clear c4
        obtain rfl := Option.some.inj H
        go_wp2
        repeat (go_quiet (fail); try go_wp2)
        go_ret
        exact ⟨by first | rfl | (simp [errW_none, errW_some] <;> rfl) | (simp [*, errW_none, errW_some] <;> rfl), by repeat (first | (with_reducible first | exact HB.out | apply below_alloc | apply pw_below_drewN | apply below_drew1 | refine below_set ?_ GE101.out) | exact HB.out)⟩
end Go.Proofs.Yteeghncofacmhaa.Q
end
section
namespace Go.Proofs.Yteeghncofacmhaa.Q
open Go.RowKit Go.Proofs.YteeghncofacmhaaW.PrintWords Go.Proofs.YteeghncofacmhaaW.PrintLast Go.Proofs.YteeghncofacmhaaW.PrintMore
attribute [local go_sem] max2_int min2_int max_two min_two max_three min_three max_four min_four   -- for this text's walks alone
set_option linter.unusedVariables false
set_option linter.unusedSimpArgs false
/-! ### impl_Chord_75: function 75 -/
def impl_Chord_75.f (k : Nat) (l0 : List (S64)) (a1_0 : Int) (a1_1 : Int) : Option (Bool) := (impl_Chord_116.f k l0 a1_0 a1_1).bind fun t102 => (some (decide (t102 ≥ 0)))
set_option maxHeartbeats 8000000 in
set_option maxRecDepth 100000 in
theorem impl_Chord_75.calls (k : Nat) (A0 : Option Addr) (c0 : Nat) (l0 : List (S64)) (a1_0 : Int) (a1_1 : Int) (r : Bool) (w : World) (hr0 : Kd.C k64 w A0 l0.length l0) (hc0 : l0.length ≤ c0) (h : impl_Chord_75.f k l0 a1_0 a1_1 = some r) :
    Calls Try.prog 75 #[.slice A0 l0.length c0, .agg #[.int .i64 a1_0, .int .i64 a1_1]] w fun e w' => e = .returned (.bool r) ∧ Below w.heap.size w w' := by
  have hu64 := Try.underlying64
  have HR0 := Aside0.mk hr0
  have HC0 := Aside0.mk hc0
  clear hr0 hc0
  have HB := Aside0.mk (Below.refl w.heap.size w)
  have H : ((impl_Chord_116.f k l0 a1_0 a1_1).bind fun t102 => (some (decide (t102 ≥ 0)))) = some r := h
  clear h
  replace H := Option.bind_eq_some_iff.mp H
  obtain ⟨t102, A30, H⟩ := H
  replace H : (some (decide (t102 ≥ 0))) = some r := H
  have A3 := Aside0.mk A30
  clear A30
  obtain rfl := Option.some.inj H
  go_enter Try.func75, Try.ntmps75
  go_wp2_with (first | ((with_reducible refine gate_dst (N := 3) rfl ?_); refine box_event ?hg (N := 3) ?hd (cs := #[.int .i64 a1_0, .int .i64 a1_1]) (t := 64) ?hr ?_; (case hd => rfl); (case hg => rfl); (case hr => first | (go_simp; done) | (go_simp; rfl)); intro gb101 hg w4 hbox hb; have n0_ := Aside0.mk (below_step (by repeat (first | (with_reducible first | exact HB.out | apply below_alloc | apply pw_below_drewN | apply below_drew1) | exact HB.out)) hb); have n1_ := Aside0.mk (hbox); have n2_ := Aside0.mk ((by rw [hg]; exact (below_size (by repeat (first | (with_reducible first | exact HB.out | apply below_alloc | apply pw_below_drewN | apply below_drew1) | exact HB.out))) : w.heap.size ≤ gb101)); have n3_ := Aside0.mk ((by rw [hg]; exact (below_size (by repeat (first | (with_reducible first | exact HB.out | apply below_alloc | apply pw_below_drewN | apply below_drew1) | exact HB.out))) : w.heap.size ≤ gb101)); clear HB; have HB := n0_; have BK101 := n1_; have GW101 := n2_; have GE101 := n3_; clear n0_ n1_ n2_ n3_; clear hb hbox hg; have hcz5_0 : w4.cell? ⟨gb101, 0, none⟩ = some (.int .i64 a1_0) := (blk_cell BK101.out 0).trans rfl; have hcz5_1 : w4.cell? ⟨gb101, 1, none⟩ = some (.int .i64 a1_1) := (blk_cell BK101.out 1).trans rfl; have hfz5_0 := blk_frozen BK101.out 0; have hfz5_1 := blk_frozen BK101.out 1) | ((with_reducible refine gate_callee (f := 116) rfl ?_); refine goesL_ (some 7) rfl rfl Try.func116 (by kernel_rfl) rfl #[.slice A0 l0.length c0, .agg #[.int .i64 a1_0, .int .i64 a1_1]] rfl (by (try simp only [List.map_toArray, List.map_cons, List.map_nil]); first | done | rfl | (simp only [List.length_drop, List.length_take]; rfl)) ?_; (with_reducible refine (impl_Chord_116.calls k _ _ l0 a1_0 a1_1 t102 _ ?side1 ?side2 A3.out).mono ?_); (case side1 => repeat (first | exact (Kd.C_below HR0.out HB.out) | (with_reducible refine Kd.C_alloc ?_ _) | (with_reducible refine Kd.C_drewN ?_ _) | (with_reducible refine Kd.C_drew ?_))); (case side2 => exact HC0.out); rintro e w6 ⟨rfl, hb⟩; refine ⟨_, rfl, ?_⟩; have n0_ := Aside0.mk (blk_below (g := gb101) (o := .cells #[.int .i64 a1_0, .int .i64 a1_1] 64 (0, 0)) (by (with_reducible repeat (first | refine blk_drewN ?_ _ | refine blk_drew ?_ | refine blk_alloc ?_ _)); exact BK101.out) hb); have n1_ := Aside0.mk (below_step (by repeat (first | (with_reducible first | exact HB.out | apply below_alloc | apply pw_below_drewN | apply below_drew1 | refine below_set ?_ GE101.out) | exact HB.out)) hb); clear BK101; clear HB; have BK101 := n0_; have HB := n1_; clear n0_ n1_; (try clear hb); (try clear hb2); (try clear hk); (try clear hi)))
  go_ret
  exact ⟨by first | rfl | (simp [errW_none, errW_some] <;> rfl) | (simp [*, errW_none, errW_some] <;> rfl), by repeat (first | (with_reducible first | exact HB.out | apply below_alloc | apply pw_below_drewN | apply below_drew1 | refine below_set ?_ GE101.out) | exact HB.out)⟩
end Go.Proofs.Yteeghncofacmhaa.Q
end
section
/- slices.ContainsFunc and slices.Contains at chords. -/
namespace Go.Proofs.Yteeghncofacmhaa.Q
open Go.RowKit Go.Proofs.YteeghncofacmhaaW.PrintWords Go.Proofs.YteeghncofacmhaaW.PrintLast Go.Proofs.YteeghncofacmhaaW.PrintMore
attribute [local go_sem] max2_int min2_int max_two min_two max_three min_three max_four min_four
set_option linter.unusedVariables false
set_option linter.unusedSimpArgs false
theorem indexCh_l0 (xs : List Ch) (x : Ch) (hn : xs.length ≤ 4611686018427387904) : ∀ (d i : Nat), i + d = xs.length → ∃ z : Int, Ev (fun k => impl_Chord_116.l0 k xs (xs.length : Int) (i : Int) x.f0 x.f1) z ∧ decide (z ≥ 0) = (xs.drop i).contains x := by
  intro d
  induction d with
  | zero =>
    intro i hd
    refine ⟨-1, Ev.some_ fun k => ?_, ?_⟩
    · simp only [impl_Chord_116.l0]
      rw [if_neg (by omega)]
    · rw [List.drop_eq_nil_of_le (by omega)]; rfl
  | succ d ih =>
    intro i hd
    have hi : i < xs.length := by omega
    by_cases e : x = xs[i]
    · refine ⟨(i : Int), Ev.some_ fun k => ?_, ?_⟩
      · simp only [impl_Chord_116.l0]
        rw [if_pos (by omega), if_pos (by omega), if_pos (by omega), rdT_at hi, if_pos (by rw [← e]; simp)]
      · rw [List.drop_eq_getElem_cons hi, List.contains_cons, ← e]; simp
    · obtain ⟨z, h1, h2⟩ := ih (i + 1) (by omega)
      refine ⟨z, Ev.step (fun k => ?_) h1, ?_⟩
      · simp only [impl_Chord_116.l0]
        rw [if_pos (by omega), if_pos (by omega), if_pos (by omega), rdT_at hi, if_neg (fun h => e (by simp at h; exact ch_ext h.1 h.2)), w64 hi hn]
      · rw [h2, List.drop_eq_getElem_cons hi, List.contains_cons]
        simp [show (x == xs[i]) = false from by simpa using e]
theorem containsCh_ev (xs : List Ch) (x : Ch) (hn : xs.length ≤ 4611686018427387904) : Ev (fun k => impl_Chord_75.f k xs x.f0 x.f1) (xs.contains x) := by
  unfold impl_Chord_75.f impl_Chord_116.f
  obtain ⟨z, h1, h2⟩ := indexCh_l0 xs x hn xs.length 0 (by omega)
  exact Ev.bind h1 (ev_eq (Ev.now _) h2)
set_option maxHeartbeats 1000000 in
theorem idx_empty (A : Option Addr) (c : Nat) (fv : Value) (W : World) : Calls Try.prog 137 #[.slice A 0 c, fv] W fun e w' => e = .returned (.int .i64 (-1)) ∧ w' = W := by
  go_enter Try.func137, Try.ntmps137
  go_wp2
  refine wp_loop_rounds 1 ?_
  rw [rounds_succ]
  go_wp2
  go_ret
  exact ⟨rfl, rfl⟩
set_option maxHeartbeats 1000000 in
theorem any_empty (A : Option Addr) (c : Nat) (fv : Value) (W : World) : Calls Try.prog 114 #[.slice A 0 c, fv] W fun e w' => e = .returned (.bool false) ∧ w' = W := by
  have h := idx_empty A c fv W
  go_enter Try.func114, Try.ntmps114
  go_wp2_with (go_at_call 137; refine h.mono ?_; rintro e w' ⟨rfl, rfl⟩)
  go_ret
  exact ⟨rfl, rfl⟩
theorem any_ch (W : World) (A : Option Addr) (c : Nat) (l : List Ch) (hC : Kd.C k64 W A l.length l) (g : Nat) (lb : Array Value)
    (eg : ∀ args w, (callFunc g args).run Try.prog w = .ok (.enter g args) w) (p : Ch → Bool)
    (hp : ∀ (W' : World) (x : Ch), x ∈ l → Below W.heap.size W W' → Calls Try.prog g (#[.agg #[.int .i64 x.f0, .int .i64 x.f1]] ++ lb) W' fun e w' => e = .returned (.bool (p x)) ∧ Below W'.heap.size W' w') :
    Calls Try.prog 114 #[.slice A l.length c, .func (.func g) #[] lb] W fun e w' => e = .returned (.bool (l.any p)) ∧ Below W.heap.size W w' := by
  rcases Nat.eq_zero_or_pos l.length with h0 | hn
  · have hl : l = [] := List.eq_nil_of_length_eq_zero h0
    rw [h0]
    refine (any_empty A c _ W).mono ?_
    rintro e w' ⟨rfl, rfl⟩
    rw [hl]
    exact ⟨rfl, Below.refl _ _⟩
  · obtain ⟨_, hmax, hR⟩ := hC
    obtain ⟨ad, ea, hcell⟩ := hR hn
    cases ea
    have hspot : ad.spot = none ∧ ad.block < W.heap.size := by
      obtain ⟨cs, h1, h2, h3⟩ := hcell 0 l[0] (List.getElem?_eq_getElem hn)
      have h4 := h3 0 (.int .i64 l[0].f0) (by rw [k64_open h2]; rfl)
      have h5 := World.block_lt_of_cell? W _ h4
      have e0 : ad.add (0 * 2 + 0) = ad := by simp [Addr.add]
      have h4' : W.cell? (ad.add (0 * 2 + 0)) = some (.int .i64 l[0].f0) := h4
      have h5' : (ad.add (0 * 2 + 0)).block < W.heap.size := h5
      rw [e0] at h4' h5'
      refine ⟨?_, h5'⟩
      unfold World.cell? at h4'
      split at h4'
      · split at h4'
        · cases h4'
        · rename_i hs; simpa using hs
      · cases h4'
    obtain ⟨b, off, sp⟩ := ad
    obtain ⟨rfl, hb⟩ := hspot
    haveI : Inhabited (Fin l.length) := ⟨⟨0, hn⟩⟩
    have hfl : (List.finRange l.length).length = l.length := by simp
    have hget : ∀ (j : Nat) (hj : j < l.length), (List.finRange l.length)[j]! = ⟨j, hj⟩ := fun j hj => by
      rw [getElem!_pos _ j (by rw [hfl]; exact hj)]; simp
    have h := AnyQ.slices_ContainsFunc Try.lAnyCh 2 Try.isAgg64 Try.sizeOf64 (fun i : Fin l.length => [.int .i64 l[i].f0, .int .i64 l[i].f1]) (fun i => rfl) (fun i => p l[i]) g lb eg b off l.length c (List.finRange l.length) W
      (fun W' i hb' => (hp W' l[i] (List.getElem_mem i.2) hb').mono fun e w' ⟨he, hb2⟩ => ⟨he, below_then hb' hb'.size hb2⟩) (by rw [hfl]; exact Nat.le_refl _) hmax hb
      (fun j hj i v hv => by
        rw [hfl] at hj
        rw [hget j hj] at hv
        obtain ⟨cs, h1, h2, h3⟩ := hcell j l[j] (List.getElem?_eq_getElem hj)
        have h4 := h3 i v (by rw [k64_open h2]; exact hv)
        have h5 : W.cell? ((⟨b, off, none⟩ : Addr).add (j * 2 + i)) = some v := h4
        rwa [add_at, ← Nat.add_assoc] at h5)
    have he : ((List.finRange l.length).take l.length).any (fun i => p l[i]) = l.any p := by
      rw [List.take_of_length_le (by rw [hfl]; exact Nat.le_refl _)]
      have h6 : (List.finRange l.length).map (fun i => l[i]) = l := by
        apply List.ext_getElem
        · simp
        · intro i h1 h2; simp
      conv => rhs; rw [← h6]
      rw [List.any_map]
      rfl
    rw [he] at h
    exact h
end Go.Proofs.Yteeghncofacmhaa.Q
end
section
namespace Go.Proofs.Yteeghncofacmhaa.Q
open Go.RowKit Go.Proofs.YteeghncofacmhaaW.PrintWords Go.Proofs.YteeghncofacmhaaW.PrintLast Go.Proofs.YteeghncofacmhaaW.PrintMore
attribute [local go_sem] max2_int min2_int max_two min_two max_three min_three max_four min_four   -- for this text's walks alone
set_option linter.unusedVariables false
set_option linter.unusedSimpArgs false
/-! ### impl_isDiagonal: function 74 -/
def impl_isDiagonal.f (a0 : Int) (a1_0 : Int) (a1_1 : Int) : Option (Bool) := if (wrap64 (a1_1 - a1_0)) > 1 then (some (decide ((wrap64 (a1_1 - a1_0)) < (wrap64 (a0 - 1))))) else (some false)
set_option maxHeartbeats 8000000 in
set_option maxRecDepth 100000 in
theorem impl_isDiagonal.calls (a0 : Int) (a1_0 : Int) (a1_1 : Int) (r : Bool) (w : World) (h : impl_isDiagonal.f a0 a1_0 a1_1 = some r) :
    Calls Try.prog 74 #[.int .i64 a0, .agg #[.int .i64 a1_0, .int .i64 a1_1]] w fun e w' => e = .returned (.bool r) ∧ Below w.heap.size w w' := by
  have hu64 := Try.underlying64
  have HB := Aside0.mk (Below.refl w.heap.size w)
  have H : (if (wrap64 (a1_1 - a1_0)) > 1 then (some (decide ((wrap64 (a1_1 - a1_0)) < (wrap64 (a0 - 1))))) else (some false)) = some r := h
  clear h
  by_cases c3 : (wrap64 (a1_1 - a1_0)) > 1
  · rw [if_pos c3] at H
    have c3b0 : decide (1 < (wrap64 (a1_1 - a1_0))) = true := decide_eq_true c3
    clear c3
    obtain rfl := Option.some.inj H
    go_enter Try.func74, Try.ntmps74
    go_wp2_with (first | ((with_reducible refine gate_dst (N := 3) rfl ?_); refine box_event ?hg (N := 3) ?hd (cs := #[.int .i64 a1_0, .int .i64 a1_1]) (t := 64) ?hr ?_; (case hd => rfl); (case hg => rfl); (case hr => first | (go_simp; done) | (go_simp; rfl)); intro gb101 hg w4 hbox hb; have n0_ := Aside0.mk (below_step (by repeat (first | (with_reducible first | exact HB.out | apply below_alloc | apply pw_below_drewN | apply below_drew1) | exact HB.out)) hb); have n1_ := Aside0.mk (hbox); have n2_ := Aside0.mk ((by rw [hg]; exact (below_size (by repeat (first | (with_reducible first | exact HB.out | apply below_alloc | apply pw_below_drewN | apply below_drew1) | exact HB.out))) : w.heap.size ≤ gb101)); have n3_ := Aside0.mk ((by rw [hg]; exact (below_size (by repeat (first | (with_reducible first | exact HB.out | apply below_alloc | apply pw_below_drewN | apply below_drew1) | exact HB.out))) : w.heap.size ≤ gb101)); clear HB; have HB := n0_; have BK101 := n1_; have GW101 := n2_; have GE101 := n3_; clear n0_ n1_ n2_ n3_; clear hb hbox hg; have hcz5_0 : w4.cell? ⟨gb101, 0, none⟩ = some (.int .i64 a1_0) := (blk_cell BK101.out 0).trans rfl; have hcz5_1 : w4.cell? ⟨gb101, 1, none⟩ = some (.int .i64 a1_1) := (blk_cell BK101.out 1).trans rfl; have hfz5_0 := blk_frozen BK101.out 0; have hfz5_1 := blk_frozen BK101.out 1))
    go_ret
    exact ⟨by first | rfl | (simp [errW_none, errW_some] <;> rfl) | (simp [*, errW_none, errW_some] <;> rfl), by repeat (first | (with_reducible first | exact HB.out | apply below_alloc | apply pw_below_drewN | apply below_drew1 | refine below_set ?_ GE101.out) | exact HB.out)⟩
  · rw [if_neg c3] at H
    have c3b0 : decide (1 < (wrap64 (a1_1 - a1_0))) = false := decide_eq_false c3
    clear c3
    obtain rfl := Option.some.inj H
    go_enter Try.func74, Try.ntmps74
    go_wp2_with (first | ((with_reducible refine gate_dst (N := 3) rfl ?_); refine box_event ?hg (N := 3) ?hd (cs := #[.int .i64 a1_0, .int .i64 a1_1]) (t := 64) ?hr ?_; (case hd => rfl); (case hg => rfl); (case hr => first | (go_simp; done) | (go_simp; rfl)); intro gb101 hg w6 hbox hb; have n0_ := Aside0.mk (below_step (by repeat (first | (with_reducible first | exact HB.out | apply below_alloc | apply pw_below_drewN | apply below_drew1) | exact HB.out)) hb); have n1_ := Aside0.mk (hbox); have n2_ := Aside0.mk ((by rw [hg]; exact (below_size (by repeat (first | (with_reducible first | exact HB.out | apply below_alloc | apply pw_below_drewN | apply below_drew1) | exact HB.out))) : w.heap.size ≤ gb101)); have n3_ := Aside0.mk ((by rw [hg]; exact (below_size (by repeat (first | (with_reducible first | exact HB.out | apply below_alloc | apply pw_below_drewN | apply below_drew1) | exact HB.out))) : w.heap.size ≤ gb101)); clear HB; have HB := n0_; have BK101 := n1_; have GW101 := n2_; have GE101 := n3_; clear n0_ n1_ n2_ n3_; clear hb hbox hg; have hcz7_0 : w6.cell? ⟨gb101, 0, none⟩ = some (.int .i64 a1_0) := (blk_cell BK101.out 0).trans rfl; have hcz7_1 : w6.cell? ⟨gb101, 1, none⟩ = some (.int .i64 a1_1) := (blk_cell BK101.out 1).trans rfl; have hfz7_0 := blk_frozen BK101.out 0; have hfz7_1 := blk_frozen BK101.out 1))
    go_ret
    exact ⟨by first | rfl | (simp [errW_none, errW_some] <;> rfl) | (simp [*, errW_none, errW_some] <;> rfl), by repeat (first | (with_reducible first | exact HB.out | apply below_alloc | apply pw_below_drewN | apply below_drew1 | refine below_set ?_ GE101.out) | exact HB.out)⟩
end Go.Proofs.Yteeghncofacmhaa.Q
end
section
/- impl.leavesTriangles by hand; spec.reTriangled. -/
namespace Go.Proofs.Yteeghncofacmhaa.Q
open Go.RowKit Go.Proofs.YteeghncofacmhaaW.PrintWords Go.Proofs.YteeghncofacmhaaW.PrintLast Go.Proofs.YteeghncofacmhaaW.PrintMore
attribute [local go_sem] max2_int min2_int max_two min_two max_three min_three max_four min_four
set_option linter.unusedVariables false
set_option linter.unusedSimpArgs false
theorem any_not_all {α : Type} (p : α → Bool) : ∀ l : List α, (l.any fun x => !p x) = !l.all p
  | [] => rfl
  | x :: l => by rw [List.any_cons, List.all_cons, any_not_all p l, Bool.not_and]
theorem isDiagonal_eq {n : Int} {c : Ch} (hn : 0 ≤ n ∧ n ≤ 1000000) (hc : -1000000 ≤ c.f0 ∧ c.f0 ≤ 1000000 ∧ -1000000 ≤ c.f1 ∧ c.f1 ≤ 1000000) : impl_isDiagonal.f n c.f0 c.f1 = some (diagC n c) := by
  unfold impl_isDiagonal.f diagC
  rw [w64s (x := c.f1 - c.f0) (by omega) (by omega), w64s (x := n - 1) (by omega) (by omega)]
  by_cases h : c.f1 - c.f0 > 1
  · rw [if_pos h]; congr 1; rw [decide_eq_decide]; omega
  · rw [if_neg h]; congr 1; rw [eq_comm, decide_eq_false_iff_not]; omega
set_option maxHeartbeats 1000000 in
theorem tri_closure (W : World) (n : Int) (b : Nat) (hb : W.cell? ⟨b, 0, none⟩ = some (.int .i64 n)) (x : Ch) (r : Bool) (hf : impl_isDiagonal.f n x.f0 x.f1 = some r) :
    Calls Try.prog 115 #[.agg #[.int .i64 x.f0, .int .i64 x.f1], .pointer (some ⟨b, 0, none⟩)] W fun e w' => e = .returned (.bool (!r)) ∧ Below W.heap.size W w' := by
  have hq := fun W' => impl_isDiagonal.calls n x.f0 x.f1 r W' hf
  have hbl : Below W.heap.size W (W.alloc (.cells #[.int .i64 x.f0, .int .i64 x.f1] 64)) := below_alloc (Below.refl _ W) _
  have hlt := World.block_lt_of_cell? W _ hb
  have hb' := (hbl.cell hlt).trans hb
  have hu2 := Try.underlying64
  replace hq := Aside0.mk hq
  replace hbl := Aside0.mk hbl
  clear hf hb hlt
  generalize x.f0 = x0 at hq hbl hb' ⊢
  generalize x.f1 = x1 at hq hbl hb' ⊢
  go_enter Try.func115, Try.ntmps115
  go_wp2_with (go_at_call 74; refine (hq.out _).mono ?_; rintro e w' ⟨rfl, hb2⟩; have HB2 := Aside0.mk hb2; clear hb2)
  go_ret
  exact ⟨rfl, below_step hbl.out HB2.out⟩
def impl_leavesTriangles.f (a0 : Int) (l1 : List S64) : Option Bool := if l1.length ≤ 4611686018427387904 then some (tri a0 l1) else none
set_option maxHeartbeats 4000000 in
set_option maxRecDepth 100000 in
theorem impl_leavesTriangles.calls (a0 : Int) (A1 : Option Addr) (c1 : Nat) (l1 : List S64) (r : Bool) (w : World) (hr1 : Kd.C k64 w A1 l1.length l1) (hc1 : l1.length ≤ c1) (h : impl_leavesTriangles.f a0 l1 = some r) :
    Calls Try.prog 71 #[.int .i64 a0, .slice A1 l1.length c1] w fun e w' => e = .returned (.bool r) ∧ Below w.heap.size w w' := by
  unfold impl_leavesTriangles.f at h
  by_cases hl' : ¬ l1.length ≤ 4611686018427387904
  · rw [if_neg hl'] at h; cases h
  have hl : l1.length ≤ 4611686018427387904 := by omega
  clear hl'
  rw [if_pos hl] at h
  replace h := Option.some.inj h
  obtain ⟨k1, hk1⟩ := isSet_ev a0 l1 (by omega)
  have hB0 : Below w.heap.size w (w.alloc (.cells #[.int .i64 a0] 3)) := below_alloc (Below.refl _ w) _
  have hK0 : (w.alloc (.cells #[.int .i64 a0] 3)).cell? ⟨w.heap.size, 0, none⟩ = some (.int .i64 a0) := new_cell _ _ _ 0
  have hset := impl_isSet.calls k1 a0 A1 c1 l1 _ _ (Kd.C_below hr1 hB0) hc1 (hk1 k1 (Nat.le_refl _))
  generalize hwb : (w.alloc (.cells #[.int .i64 a0] 3)) = wb at hB0 hK0 hset
  generalize hg : w.heap.size = g at hK0 hB0
  have hgl := World.block_lt_of_cell? wb _ hK0
  have HB0 := Aside0.mk hB0
  have HK0 := Aside0.mk hK0
  have HG := Aside0.mk hgl
  cases h1 : goodSet a0 l1 with
  | false =>
    have hr : r = false := by rw [← h]; unfold tri plane; rw [h1]; rfl
    subst hr
    rw [h1] at hset
    replace hset := Aside0.mk hset
    clear hr1 hc1 hk1 hl h h1 hgl hB0
    go_enter Try.func71, Try.ntmps71
    go_wp2_with fail
    (with_reducible refine hset.out.mono ?_)
    rintro e w1 ⟨rfl, hb1⟩
    have HB1 := Aside0.mk hb1
    clear hb1
    go_wp2_with fail
    go_ret
    exact ⟨rfl, by rw [← hg]; exact below_step (by rw [hg]; exact HB0.out) HB1.out⟩
  | true =>
    rw [h1] at hset
    have hplane : tri a0 l1 = (decide (cntPairs l1 = 0) && decide ((l1.length : Int) = a0 - 3) && l1.all (diagC a0)) := by
      unfold tri plane; rw [h1]; rfl
    rw [hplane] at h
    have hn := good_n h1
    have hsub : wrap64 (a0 - 3) = a0 - 3 := w64s (by omega) (by omega)
    have hok := good_ok h1
    obtain ⟨k2, hk2⟩ := crossings_ev l1 (by have := good_len h1; omega)
    have hcr := fun W hW => impl_crossings.calls k2 A1 c1 l1 _ W (Kd.C_below hr1 hW) hc1 (hk2 k2 (Nat.le_refl _))
    replace hset := Aside0.mk hset
    by_cases h2 : (l1.length : Int) = a0 - 3
    · by_cases h3 : cntPairs l1 = 0
      · rw [decide_eq_true h2, decide_eq_true h3, Bool.true_and, Bool.true_and] at h
        have hany : (l1.any fun x => !diagC a0 x) = !r := by rw [← h]; exact any_not_all _ l1
        have hac : ∀ W b, Below w.heap.size w W → W.cell? ⟨b, 0, none⟩ = some (.int .i64 a0) → Calls Try.prog 114 #[.slice A1 l1.length c1, .func (.func 115) #[] #[.pointer (some ⟨b, 0, none⟩)]] W fun e w' => e = .returned (.bool (!r)) ∧ Below W.heap.size W w' := fun W b hW hb => by
          rw [← hany]
          exact any_ch W A1 c1 l1 (Kd.C_below hr1 hW) 115 _ (enters_of Try.func115 (by kernel_rfl) rfl) (fun x => !diagC a0 x) (fun W' x hx hb' => tri_closure W' a0 b ((hb'.cell (World.block_lt_of_cell? _ _ hb)).trans hb) x _ (isDiagonal_eq ⟨by omega, by omega⟩ (by have := hok x hx; omega)))
        have hcr0 : ∀ W, Below w.heap.size w W → Calls Try.prog 91 #[.slice A1 l1.length c1] W fun e w' => e = .returned (.int .i64 0) ∧ Below W.heap.size W w' := fun W hW => by
          have := hcr W hW
          rw [h3] at this
          exact this
        have h2b : ((l1.length : Int) == a0 - 3) = true := by simpa using h2
        replace hac := Aside0.mk hac
        replace hcr0 := Aside0.mk hcr0
        replace hany := Aside0.mk hany
        clear hr1 hc1 hk1 hk2 hcr hl h h1 hgl hB0 hok hplane h2 h3
        replace hsub := Aside0.mk hsub
        go_enter Try.func71, Try.ntmps71
        go_wp2_with fail
        (with_reducible refine hset.out.mono ?_)
        rintro e w1 ⟨rfl, hb1⟩
        have hK1 := (hb1.cell HG.out).trans HK0.out
        have HB1 : Aside0 (Below w.heap.size w w1) := ⟨below_step (by rw [hg]; exact HB0.out) hb1⟩
        clear hb1
        go_wp2_with fail
        (with_reducible refine (hcr0.out w1 HB1.out).mono ?_)
        rintro e w2 ⟨rfl, hb2⟩
        have HB2 : Aside0 (Below w.heap.size w w2) := ⟨below_step HB1.out hb2⟩
        have hK2 := (hb2.cell (World.block_lt_of_cell? w1 _ hK1)).trans hK1
        have HK2 := Aside0.mk hK2
        clear hb2 hK1
        go_wp2_with fail
        (with_reducible refine (hac.out w2 g HB2.out HK2.out).mono ?_)
        rintro e w3 ⟨rfl, hb3⟩
        have HB3 := Aside0.mk hb3
        clear hb3
        go_wp2_with fail
        go_ret
        exact ⟨by simp, by rw [← hg]; exact below_step HB2.out HB3.out⟩
      · have hr : r = false := by rw [← h, decide_eq_false h3]; simp
        subst hr
        have h2b : ((l1.length : Int) == a0 - 3) = true := by simpa using h2
        have hz : ((cntPairs l1 : Int) == 0) = false := by rw [beq_eq_false_iff_ne]; omega
        replace hcr := Aside0.mk hcr
        generalize (cntPairs l1 : Int) = z at hcr hz
        clear hr1 hc1 hk1 hk2 hl h h1 hgl hB0 hok hplane h2 h3
        replace hsub := Aside0.mk hsub
        go_enter Try.func71, Try.ntmps71
        go_wp2_with fail
        (with_reducible refine hset.out.mono ?_)
        rintro e w1 ⟨rfl, hb1⟩
        have hK1 := (hb1.cell HG.out).trans HK0.out
        have HB1 : Aside0 (Below w.heap.size w w1) := ⟨below_step (by rw [hg]; exact HB0.out) hb1⟩
        clear hb1
        go_wp2_with fail
        (with_reducible refine (hcr.out w1 HB1.out).mono ?_)
        rintro e w2 ⟨rfl, hb2⟩
        have HB2 : Aside0 (Below w.heap.size w w2) := ⟨below_step HB1.out hb2⟩
        clear hb2
        go_wp2_with fail
        go_ret
        exact ⟨rfl, by rw [← hg]; exact HB2.out⟩
    · have hr : r = false := by rw [← h, decide_eq_false h2]; simp
      subst hr
      have h2b : ((l1.length : Int) == a0 - 3) = false := by simpa using h2
      clear hr1 hc1 hk1 hk2 hcr hl h h1 hgl hB0 hok hplane h2
      replace hsub := Aside0.mk hsub
      go_enter Try.func71, Try.ntmps71
      go_wp2_with fail
      (with_reducible refine hset.out.mono ?_)
      rintro e w1 ⟨rfl, hb1⟩
      have hK1 := (hb1.cell HG.out).trans HK0.out
      have HB1 := Aside0.mk hb1
      clear hb1
      go_wp2_with fail
      go_ret
      exact ⟨rfl, by rw [← hg]; exact below_step (by rw [hg]; exact HB0.out) HB1.out⟩
end Go.Proofs.Yteeghncofacmhaa.Q
end
section
/- impl.numbersWith by hand: the numbers of a range that a function holds of. -/
namespace Go.Proofs.Yteeghncofacmhaa.Q
open Go.RowKit Go.Proofs.YteeghncofacmhaaW.PrintWords Go.Proofs.YteeghncofacmhaaW.PrintLast Go.Proofs.YteeghncofacmhaaW.PrintMore
attribute [local go_sem] max2_int min2_int max_two min_two max_three min_three max_four min_four
set_option linter.unusedVariables false
set_option linter.unusedSimpArgs false
theorem ints_snoc (a : Int) (m : Nat) : ints a (m + 1) = ints a m ++ [a + (m : Int)] := by
  unfold ints; rw [List.range_succ, List.map_append]; rfl
set_option maxHeartbeats 4000000 in
set_option maxRecDepth 100000 in
theorem numbersWith_calls (lo : Int) (n : Nat) (hlo : 0 ≤ lo ∧ lo ≤ 1000000) (hn : n ≤ 1000000) (g : Nat) (lb : Array Value) (eg : ∀ args w, (callFunc g args).run Try.prog w = .ok (.enter g args) w) (p : Int → Bool) (w : World)
    (hp : ∀ (W' : World) (x : Int), lo ≤ x → x < lo + n → Below w.heap.size w W' → Calls Try.prog g (#[.int .i64 x] ++ lb) W' fun e w' => e = .returned (.bool (p x)) ∧ Below W'.heap.size W' w') :
    Calls Try.prog 76 #[.int .i64 lo, .int .i64 (lo + (n : Int) - 1), .func (.func g) #[] lb] w fun e w' => ∃ v0_ : Value, e = .returned v0_ ∧ Kd.R (Kd.int .i64) 3 w' w.heap.size (fun _ => True) v0_ ((ints lo n).filter p) ∧ Below w.heap.size w w' := by
  replace hp := Aside0.mk hp
  generalize hhi : lo + (n : Int) - 1 = hi
  obtain ⟨lo0, lo1⟩ := hlo
  have O0 : Aside0 ((Kd.int .i64).R 3 (w.alloc (.cells #[] 3)) w.heap.size (fun _ => True) (.slice (some ⟨w.heap.size, 0, none⟩) 0 0) []) := ⟨⟨fun _ _ => trivial, [], World.ownsRow_lit w #[] 0 (Nat.le_refl _) (by decide) rfl, Reps.none _ _⟩⟩
  have B0 : Aside0 (Below w.heap.size w (w.alloc (.cells #[] 3))) := ⟨below_alloc (Below.refl _ _) _⟩
  go_enter Try.func76, Try.ntmps76
  go_wp2_with fail
  go_loopw [7, 8] (fun v7 v8 wr => ∃ (j : Nat), v8 = .int .i64 (lo + (j : Int)) ∧ Aside0 (j ≤ n) ∧ Aside0 ((Kd.int .i64).R 3 wr w.heap.size (fun _ => True) v7 ((ints lo j).filter p)) ∧ Aside0 (Below w.heap.size w wr)) (fun _ v8 _ => (hi + 1 - intOf v8).toNat)
  case atStart => exact ⟨0, by simp, ⟨Nat.zero_le _⟩, O0, B0⟩
  case round =>
    clear O0 B0
    obtain ⟨j, rfl, hj, HO, HB⟩ := hrel
    replace hj := hj.out
    by_cases hlt : j < n
    · have hl : decide (lo + (j : Int) ≤ hi) = true := decide_eq_true (by omega)
      have hcall := hp.out wr (lo + (j : Int)) (by omega) (by omega) HB.out
      have hfl : ((ints lo j).filter p).length ≤ 1000000 := by
        have := List.length_filter_le p (ints lo j)
        simp [ints] at this
        exact Nat.le_trans (by simpa [ints] using List.length_filter_le p (ints lo j)) (by omega)
      have hsn := ints_snoc lo j
      generalize hx : lo + (j : Int) = x at hl hcall hsn
      cases hb : p x with
      | true =>
        rw [hb] at hcall
        have hres : Aside0 ((ints lo (j + 1)).filter p = (ints lo j).filter p ++ [x]) := ⟨by rw [hsn, List.filter_append, List.filter_cons, hb]; simp⟩
        replace hb := Aside0.mk hb
        generalize (ints lo j).filter p = fl at HO hres hfl
        replace hcall := Aside0.mk hcall
        clear hsn
        go_wp2_with (first | (go_at_fn g; refine hcall.out.mono ?_; rintro e w' ⟨rfl, hb'⟩; have HO2 := Aside0.mk (Kd.R_below HO.out hb'); have HB2 := Aside0.mk (below_step HB.out hb'); clear hb') | ((with_reducible refine gate_builtin (b := .append) (xs := #[.tmp 19, .tmp 21]) rfl ?_); at_builtin; refine Kd.R_append (Kd.int .i64) (w0 := w) w.heap.size rfl (.tmp 19) (.tmp 21) 24 3 (.int .i64 0) 8 rfl Try.underlying24 info3 rfl (by decide) (by omega) _ fl x [.int .i64 x] (fun _ => True) (fun _ => False) rfl rfl rfl (fun _ hk => hk.elim) (fun _ _ => trivial) HO2.out HB2.out HB2.out.size ?aL ?_; (case aL => omega); intro v1 w1 ho1 hb1 hg1 ha1; have HO1 := Aside0.mk ho1; have HB1 := Aside0.mk hb1; clear ho1 hb1 hg1 ha1))
        go_roundw
        case rel => exact ⟨j + 1, by rw [← hx]; go_num, ⟨by omega⟩, ⟨by rw [hres.out]; exact HO1.out⟩, HB1⟩
        case measure => simp [intOf]; omega
      | false =>
        rw [hb] at hcall
        have hres : Aside0 ((ints lo (j + 1)).filter p = (ints lo j).filter p) := ⟨by rw [hsn, List.filter_append, List.filter_cons, hb]; simp⟩
        replace hb := Aside0.mk hb
        generalize (ints lo j).filter p = fl at HO hres hfl
        replace hcall := Aside0.mk hcall
        clear hsn
        go_wp2_with (go_at_fn g; refine hcall.out.mono ?_; rintro e w' ⟨rfl, hb'⟩; have HO2 := Aside0.mk (Kd.R_below HO.out hb'); have HB2 := Aside0.mk (below_step HB.out hb'); clear hb')
        go_roundw
        case rel => exact ⟨j + 1, by rw [← hx]; go_num, ⟨by omega⟩, ⟨by rw [hres.out]; exact HO2.out⟩, HB2⟩
        case measure => simp [intOf]; omega
    · have hl : decide (lo + (j : Int) ≤ hi) = false := decide_eq_false (by omega)
      obtain rfl : j = n := by omega
      go_wp2_with fail
      go_ret
      exact ⟨_, rfl, HO.out, HB.out⟩
end Go.Proofs.Yteeghncofacmhaa.Q
end
section
namespace Go.Proofs.Yteeghncofacmhaa.Q
open Go.RowKit Go.Proofs.YteeghncofacmhaaW.PrintWords Go.Proofs.YteeghncofacmhaaW.PrintLast Go.Proofs.YteeghncofacmhaaW.PrintMore
attribute [local go_sem] max2_int min2_int max_two min_two max_three min_three max_four min_four   -- for this text's walks alone
set_option linter.unusedVariables false
set_option linter.unusedSimpArgs false
/-! ### impl_chord: function 73 -/
def impl_chord.f (a0 : Int) (a1 : Int) : Option (Int × Int) := some (mn a0 a1, mx a0 a1)
set_option maxHeartbeats 8000000 in
set_option maxRecDepth 100000 in
theorem impl_chord.calls (a0 : Int) (a1 : Int) (r1 : Int) (r2 : Int) (w : World) (h : impl_chord.f a0 a1 = some (r1, r2)) :
    Calls Try.prog 73 #[.int .i64 a0, .int .i64 a1] w fun e w' => e = .returned (.agg #[.int .i64 r1, .int .i64 r2]) ∧ Below w.heap.size w w' := by
  have hu64 := Try.underlying64
  have HB := Aside0.mk (Below.refl w.heap.size w)
  have H : (some (mn a0 a1, mx a0 a1)) = some (r1, r2) := h
  clear h
  obtain ⟨ji3, hji3⟩ : ∃ j_ : Int, (mn a0 a1) = j_ := ⟨_, rfl⟩
  replace H : (some (ji3, mx a0 a1)) = some (r1, r2) := by first | (rw [hji3] at H; exact H) | (simp only [hji3] at H ⊢; exact H)
  have hji3_ : (if a1 < a0 then a1 else a0) = ji3 := hji3
  obtain ⟨ji4, hji4⟩ : ∃ j_ : Int, (mx a0 a1) = j_ := ⟨_, rfl⟩
  replace H : (some (ji3, ji4)) = some (r1, r2) := by first | (rw [hji4] at H; exact H) | (simp only [hji4] at H ⊢; exact H)
  have hji4_ : (if a0 < a1 then a1 else a0) = ji4 := hji4
  simp only [Option.some.injEq, Prod.mk.injEq] at H
  obtain ⟨rfl, rfl⟩ := H
  go_enter Try.func73, Try.ntmps73
  go_wp2_with (first | ((with_reducible refine gate_dst (N := 4) rfl ?_); refine box_event ?hg (N := 4) ?hd (cs := #[.int .i64 0, .int .i64 0]) (t := 64) ?hr ?_; (case hd => rfl); (case hg => rfl); (case hr => first | (go_simp; done) | (go_simp; rfl)); intro gb101 hg w5 hbox hb; have n0_ := Aside0.mk (below_step (by repeat (first | (with_reducible first | exact HB.out | apply below_alloc | apply pw_below_drewN | apply below_drew1) | exact HB.out)) hb); have n1_ := Aside0.mk (hbox); have n2_ := Aside0.mk ((by rw [hg]; exact (below_size (by repeat (first | (with_reducible first | exact HB.out | apply below_alloc | apply pw_below_drewN | apply below_drew1) | exact HB.out))) : w.heap.size ≤ gb101)); have n3_ := Aside0.mk ((by rw [hg]; exact (below_size (by repeat (first | (with_reducible first | exact HB.out | apply below_alloc | apply pw_below_drewN | apply below_drew1) | exact HB.out))) : w.heap.size ≤ gb101)); clear HB; have HB := n0_; have BK101 := n1_; have GW101 := n2_; have GE101 := n3_; clear n0_ n1_ n2_ n3_; clear hb hbox hg; have hcz6_0 : w5.cell? ⟨gb101, 0, none⟩ = some (.int .i64 0) := (blk_cell BK101.out 0).trans rfl; have hcz6_1 : w5.cell? ⟨gb101, 1, none⟩ = some (.int .i64 0) := (blk_cell BK101.out 1).trans rfl; have hfz6_0 := blk_frozen BK101.out 0; have hfz6_1 := blk_frozen BK101.out 1))
  refine bodyPost_ret (results_cell_row rfl _ _ gb101 64 #[.int .i64 ji3, .int .i64 ji4] (0, 0) _ rfl (by (with_reducible repeat (first | refine blk_drewN ?_ _ | refine blk_drew ?_ | refine blk_alloc ?_ _)); refine blk_put (cs := #[.int .i64 ji3, .int .i64 0]) ?_ 1 _ rfl; (with_reducible repeat (first | refine blk_drewN ?_ _ | refine blk_drew ?_ | refine blk_alloc ?_ _)); refine blk_put (cs := #[.int .i64 0, .int .i64 0]) ?_ 0 _ rfl; (with_reducible repeat (first | refine blk_drewN ?_ _ | refine blk_drew ?_ | refine blk_alloc ?_ _)); exact BK101.out) Try.underlying64 rfl (by kernel_rfl)) rfl ?_
  exact ⟨by first | rfl | (simp [errW_none, errW_some] <;> rfl) | (simp only [← hji3, ← hji4]; first | rfl | (simp [errW_none, errW_some] <;> rfl)) | (simp [*, errW_none, errW_some] <;> rfl), by repeat (first | (with_reducible first | exact HB.out | apply below_alloc | apply pw_below_drewN | apply below_drew1 | refine below_set ?_ GE101.out) | exact HB.out)⟩
end Go.Proofs.Yteeghncofacmhaa.Q
end
