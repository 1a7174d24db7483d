/- What lies below what, in plain Lean: steps told one by one; words stay words; types that are the same; more revelations. Words lie below words alone; types that are equal are the same; what lies below stays below with more revelations. The law's bound on graphs. The law SubNil, walked. The law SubJoins: in plain Lean, and walked. Lists whose cells lie in a block of the call's own; a list appended to such a one. The law SubMore: in plain Lean, and walked. How the data of a call read as graphs and revelations. What joins a law to its row: the arguments opened. The law SubMore holds: for every input it answers true, and its arguments read as before. -/
import Derived.Deep.Upon
import Derived.Laws.OwnMore
import Derived.Maps.AppendAt
import Derived.ProofKit
import Derived.SizedLaws
import Derived.Test.YtjffkeoajkhbmaaGreatRows
import Derived.OpenShut
import Derived.ShutString
import Derived.ChangeOld
import Derived.Below
import Derived.Carry
import Derived.Test.YtjffkeoajkhbmaaGreatM0
import Derived.Test.YtjffkeoajkhbmaaGreatM10
import Derived.Test.YtjffkeoajkhbmaaGreatM13
import Derived.Test.YtjffkeoajkhbmaaGreatM15
import Derived.Test.YtjffkeoajkhbmaaGreatM29
import Derived.Test.YtjffkeoajkhbmaaGreatM30
namespace Go.Proofs.YtjffkeoajkhbmaaGreat
open Go.RowKit Go.Proofs
set_option linter.unusedSimpArgs false
theorem succ_ok {g : List Ty} {rs : List Reveal} (h : openE g rs = 0) : ∀ x, x < g.length → ∀ u, u ∈ succF g (classesOf g) rs x → u < g.length := by
  obtain ⟨_, h400, h60, hr, hbad⟩ := opens h
  exact succF_lt hr h60 (fun i hi => rev_in (hbad i hi))
theorem nth_reachL {g : List Ty} {rs : List Reveal} {a : Nat} (ha : a < g.length) : nth (reachL g rs g.length) a = reachN (succF g (classesOf g) rs) g.length a := by
  rw [nth_eq (by rw [reachL_len]; exact ha)]
  simp [reachL]
def Lies (g : List Ty) (rs : List Reveal) (a b : Nat) : Prop := Reach (succF g (classesOf g) rs) a b
theorem bit_lies {g : List Ty} {rs : List Reveal} (h : openE g rs = 0) {a b : Nat} (ha : a < g.length) : (nth (reachL g rs g.length) a).testBit b = true ↔ Lies g rs a b := by
  rw [nth_reachL ha]
  exact reachN_iff ha (succ_ok h) b
theorem lies_lt {g : List Ty} {rs : List Reveal} (h : openE g rs = 0) {a b : Nat} (ha : a < g.length) (hl : Lies g rs a b) : b < g.length := reach_lt ha (succ_ok h) hl
theorem asked_in {n : Nat} {l : List Int} (h : ∀ i, i ∈ l → 0 ≤ i ∧ i < n) : askedR n l = 0 := by
  rcases askedR_cases n l with ⟨h0, _⟩ | ⟨_, i, hi, hh⟩
  · exact h0
  · have := h i hi
    rw [hasI_iff.2 this] at hh; cases hh
theorem asked_two {n a b : Nat} (ha : a < n) (hb : b < n) : askedR n [(a : Int), (b : Int)] = 0 := asked_in (fun i hi => by
  simp only [List.mem_cons, List.not_mem_nil, or_false] at hi
  omega)
theorem belowQ_iff {g : List Ty} {rs : List Reveal} (h : openE g rs = 0) {a b : Nat} (ha : a < g.length) (hb : b < g.length) : (belowQ g rs a b).2 = 0 ∧ ((belowQ g rs a b).1 = true ↔ Lies g rs a b) := by
  unfold belowQ belowR
  rw [if_pos (asked_two ha hb)]
  exact ⟨rfl, bit_lies h ha⟩
def StepOk (g : List Ty) (C : Nat → Nat) (rs : List Reveal) (x : Nat) (s : Stp) : Prop :=
  (s.rule = 1 ∧ s.n = 0 ∧ s.to_ < g.length ∧ C s.to_ = C x) ∨
  (s.rule = 2 ∧ s.n = 0 ∧ s.to_ < g.length ∧ (nth g x).kind = 3 ∧ widerB (nth g x) (nth g s.to_) = true) ∨
  (s.rule = 3 ∧ s.n = 0 ∧ s.to_ < g.length ∧ (nth g x).kind = 5 ∧ isWordB (nth g s.to_).kind = false) ∨
  (s.rule = 4 ∧ s.n = 0 ∧ hasSuperB (nth g x).kind = true ∧ s.to_ = (nth g x).super.toNat) ∨
  (s.rule = 5 ∧ s.n < rs.length ∧ (nth g x).kind = 13 ∧ (nth rs s.n).name = (nth g x).opq ∧ s.to_ = (nth rs s.n).type.toNat) ∨
  (s.rule = 6 ∧ s.n < rs.length ∧ s.to_ < g.length ∧ (nth rs s.n).full = true ∧ (nth rs s.n).type = (x : Int) ∧ (nth g s.to_).kind = 13 ∧ (nth g s.to_).opq = (nth rs s.n).name) ∨
  (s.rule = 7 ∧ s.n = 0 ∧ s.to_ < g.length ∧ anyP (anyTo (nth g x).kind) (nth g s.to_).kind = true)
theorem mem_toL {r n : Nat} {p : Nat → Bool} {s : Stp} : s ∈ toL r n p ↔ s.rule = r ∧ s.n = 0 ∧ s.to_ < n ∧ p s.to_ = true := by
  unfold toL
  simp only [List.mem_map, List.mem_filter, List.mem_range]
  constructor
  · rintro ⟨u, ⟨h1, h2⟩, rfl⟩; exact ⟨rfl, rfl, h1, h2⟩
  · obtain ⟨a, b, c⟩ := s
    rintro ⟨h1, h2, h3, h4⟩
    simp only at h1 h2 h3 h4
    subst h1 h2
    exact ⟨b, ⟨h3, h4⟩, rfl⟩
theorem mem_byN {rs : List Reveal} {k : Nat} {name : BA} {i : Nat} : i ∈ byN rs k name ↔ i < k ∧ (nth rs i).name = name := by
  unfold byN
  simp only [List.mem_filter, List.mem_range, beq_iff_eq]
theorem mem_back {g : List Ty} {rs : List Reveal} {t : Nat} {s : Stp} : s ∈ backL g rs t ↔ s.rule = 6 ∧ s.n < rs.length ∧ s.to_ < g.length ∧ (nth rs s.n).full = true ∧ (nth rs s.n).type = (t : Int) ∧ (nth g s.to_).kind = 13 ∧ (nth g s.to_).opq = (nth rs s.n).name := by
  unfold backL backUpTo
  simp only [List.mem_flatten, List.mem_map, List.mem_range]
  constructor
  · rintro ⟨l, ⟨i, hi, rfl⟩, hs⟩
    unfold backOf at hs
    split at hs
    · rename_i h
      simp only [Bool.and_eq_true, beq_iff_eq] at h
      obtain ⟨u, hu, rfl⟩ := List.mem_map.1 hs
      obtain ⟨h1, h2⟩ := List.mem_filter.1 hu
      simp only [Bool.and_eq_true, beq_iff_eq] at h2
      exact ⟨rfl, hi, List.mem_range.1 h1, h.1, h.2, h2.1, h2.2⟩
    · cases hs
  · obtain ⟨a, b, c⟩ := s
    rintro ⟨h1, h2, h3, h4, h5, h6, h7⟩
    simp only at h1 h2 h3 h4 h5 h6 h7
    subst h1
    refine ⟨_, ⟨c, h2, rfl⟩, ?_⟩
    unfold backOf
    rw [if_pos (by rw [h4, h5]; simp)]
    exact List.mem_map.2 ⟨b, List.mem_filter.2 ⟨List.mem_range.2 h3, by rw [h6, h7]; simp⟩, rfl⟩
theorem mem_steps {g : List Ty} {C : Nat → Nat} {rs : List Reveal} {x : Nat} {s : Stp} : s ∈ stepsL g C rs x ↔ StepOk g C rs x s := by
  unfold stepsL stepsTo
  simp only [List.mem_flatten, List.mem_map, List.mem_range]
  constructor
  · rintro ⟨l, ⟨i, hi, rfl⟩, hs⟩
    rcases (show i = 0 ∨ i = 1 ∨ i = 2 ∨ i = 3 ∨ i = 4 ∨ i = 5 ∨ i = 6 ∨ i = 7 by omega) with rfl | rfl | rfl | rfl | rfl | rfl | rfl | rfl
    · cases hs
    · have := mem_toL.1 hs
      exact Or.inl ⟨this.1, this.2.1, this.2.2.1, by simpa using this.2.2.2⟩
    · simp only [ruleL, widerL] at hs
      split at hs
      · rename_i h
        have := mem_toL.1 hs
        exact Or.inr (Or.inl ⟨this.1, this.2.1, this.2.2.1, h, this.2.2.2⟩)
      · cases hs
    · simp only [ruleL, nullL] at hs
      split at hs
      · rename_i h
        have := mem_toL.1 hs
        exact Or.inr (Or.inr (Or.inl ⟨this.1, this.2.1, this.2.2.1, h, by simpa using this.2.2.2⟩))
      · cases hs
    · simp only [ruleL, superL] at hs
      split at hs
      · rename_i h
        rw [List.mem_singleton] at hs
        subst hs
        exact Or.inr (Or.inr (Or.inr (Or.inl ⟨rfl, rfl, h, rfl⟩)))
      · cases hs
    · simp only [ruleL, revealL] at hs
      split at hs
      · rename_i h
        obtain ⟨i, hi, rfl⟩ := List.mem_map.1 hs
        have := mem_byN.1 hi
        exact Or.inr (Or.inr (Or.inr (Or.inr (Or.inl ⟨rfl, this.1, h, this.2, rfl⟩))))
      · cases hs
    · exact Or.inr (Or.inr (Or.inr (Or.inr (Or.inr (Or.inl (mem_back.1 hs))))))
    · have := mem_toL.1 hs
      exact Or.inr (Or.inr (Or.inr (Or.inr (Or.inr (Or.inr ⟨this.1, this.2.1, this.2.2.1, this.2.2.2⟩)))))
  · obtain ⟨a, b, c⟩ := s
    rintro (⟨h1, h2, h3, h4⟩ | ⟨h1, h2, h3, h4, h5⟩ | ⟨h1, h2, h3, h4, h5⟩ | ⟨h1, h2, h3, h4⟩ | ⟨h1, h2, h3, h4, h5⟩ | h | ⟨h1, h2, h3, h4⟩)
    · exact ⟨_, ⟨1, by decide, rfl⟩, mem_toL.2 ⟨h1, h2, h3, by simpa using h4⟩⟩
    · refine ⟨_, ⟨2, by decide, rfl⟩, ?_⟩
      simp only [ruleL, widerL]
      rw [if_pos h4]
      exact mem_toL.2 ⟨h1, h2, h3, h5⟩
    · refine ⟨_, ⟨3, by decide, rfl⟩, ?_⟩
      simp only [ruleL, nullL]
      rw [if_pos h4]
      exact mem_toL.2 ⟨h1, h2, h3, by simpa using h5⟩
    · refine ⟨_, ⟨4, by decide, rfl⟩, ?_⟩
      simp only [ruleL, superL]
      rw [if_pos h3, List.mem_singleton]
      simp only at h1 h2 h4
      rw [h1, h2, h4]
    · refine ⟨_, ⟨5, by decide, rfl⟩, ?_⟩
      simp only [ruleL, revealL]
      rw [if_pos h3]
      simp only at h1 h2 h4 h5
      exact List.mem_map.2 ⟨c, mem_byN.2 ⟨h2, h4⟩, by rw [h1, h5]⟩
    · exact ⟨_, ⟨6, by decide, rfl⟩, mem_back.2 h⟩
    · exact ⟨_, ⟨7, by decide, rfl⟩, mem_toL.2 ⟨h1, h2, h3, h4⟩⟩
theorem lead_le_of {i k : Nat} {p : Nat → Bool} (hk : k < i) (h : p k = true) : lead i p ≤ k := by
  unfold lead
  cases hf : (List.range i).find? p with
  | none =>
    have := List.find?_eq_none.1 hf k (List.mem_range.2 hk)
    exact absurd h this
  | some m =>
    show m ≤ k
    rw [List.find?_range_eq_some] at hf
    rcases Nat.lt_or_ge k m with hlt | hge
    · have := hf.2.2 k hlt
      rw [h] at this; cases this
    · exact hge
theorem leadF_same {q : Nat → Nat → Bool} {i j : Nat} (hij : i ≤ j) (hq : ∀ k, q i k = q j k) (hr : q i i = true) : leadF q i = leadF q j := by
  rw [leadF_eq q j]
  rcases Nat.lt_or_ge i j with hlt | hge
  · have h0 := leadF_eq q i
    rcases lead_cases i (fun k => leadF q k == k && q i k) with h | ⟨h, h2⟩
    · have hli : leadF q i = i := by rw [h0, h]
      rw [hli]
      refine (lead_hit hlt (by rw [hli, ← hq i, hr]; simp) (fun k hk => ?_)).symm
      cases hc : (leadF q k == k && q j k) with
      | false => rfl
      | true =>
        exfalso
        rw [← hq k] at hc
        have := lead_le_of (p := fun k => leadF q k == k && q i k) hk hc
        omega
    · have hli : leadF q i = lead i (fun k => leadF q k == k && q i k) := h0
      rw [hli]
      refine (lead_hit (by omega) (by rw [← hq]; exact h2) (fun k hk => ?_)).symm
      cases hc : (leadF q k == k && q j k) with
      | false => rfl
      | true =>
        exfalso
        rw [← hq k] at hc
        have := lead_le_of (p := fun k => leadF q k == k && q i k) (show k < i by omega) hc
        omega
  · have : i = j := by omega
    subst this
    exact leadF_eq q i
end Go.Proofs.YtjffkeoajkhbmaaGreat

namespace Go.Proofs.YtjffkeoajkhbmaaGreat
open Go.RowKit Go.Proofs
set_option linter.unusedSimpArgs false
theorem sameB_refl {α : Type} {eq : α → α → Bool} (h : ∀ x, eq x x = true) : ∀ l, sameB eq l l = true
  | [] => rfl
  | x :: l => by simp only [sameB, h x, sameB_refl h l, Bool.and_self]
theorem agreeB_refl (x : Ty) : agreeB x x = true := by
  unfold agreeB plainEq
  rw [sameB_refl (fun p => by unfold partEq; simp), sameB_refl (fun m => by unfold methEq; simp [sameB_refl (fun (a : BA) => by simp : ∀ a : BA, (a == a) = true)]), sameB_refl (fun o => by unfold overEq; simp)]
  simp
theorem iter_same {g : List Ty} {i j : Nat} (hij : i ≤ j) (hx : nth g i = nth g j) : ∀ m, classIter g m i = classIter g m j
  | 0 => leadF_same hij (fun k => by rw [hx]) (agreeB_refl _)
  | m + 1 => by
    have ih := iter_same hij hx m
    refine leadF_same hij (fun k => ?_) ?_
    · show (classIter g m k == classIter g m i && stepQ g (classIter g m) i k) = (classIter g m k == classIter g m j && stepQ g (classIter g m) j k)
      unfold stepQ mineOf
      rw [ih, hx]
    · show (classIter g m i == classIter g m i && stepQ g (classIter g m) i i) = true
      unfold stepQ
      rw [sameB_refl (fun x => by simp)]
      simp
theorem classes_eq {g : List Ty} {i j : Nat} (hx : nth g i = nth g j) : classesOf g i = classesOf g j := by
  unfold classesOf
  rcases Nat.le_total i j with h | h
  · exact iter_same h hx _
  · exact (iter_same h hx.symm _).symm
theorem iter_kind {g : List Ty} {i j : Nat} : ∀ m, classIter g m i = classIter g m j → (nth g i).kind = (nth g j).kind
  | 0, h => by
    have key : ∀ i, (nth g i).kind = (nth g (class0 g i)).kind := fun i => by
      rcases leadF_with (fun i k => agreeB (nth g i) (nth g k)) i with h | h
      · show _ = (nth g (leadF (fun i k => agreeB (nth g i) (nth g k)) i)).kind
        rw [h]
      · unfold agreeB plainEq at h
        simp only [Bool.and_eq_true, beq_iff_eq] at h
        exact h.1.1.1.1.1.1.1.1
    rw [key i, key j]
    exact congrArg (fun k => (nth g k).kind) h
  | m + 1, h => by
    refine iter_kind m ?_
    have h1 := parted_le (C := classIter g m) (stepQ g (classIter g m)) i
    have h2 := parted_le (C := classIter g m) (stepQ g (classIter g m)) j
    rw [← h1, ← h2]
    exact congrArg (classIter g m) h
theorem classes_kind {g : List Ty} {i j : Nat} (h : classesOf g i = classesOf g j) : (nth g i).kind = (nth g j).kind := iter_kind _ h
theorem right_kind {g : List Ty} {x : Ty} (h : rightB g x = true) : 1 ≤ x.kind ∧ x.kind ≤ 13 := by
  unfold rightB at h
  split at h
  · omega
  · split at h
    · omega
    · split at h
      · omega
      · split at h
        · omega
        · split at h
          · omega
          · split at h
            · omega
            · cases h
theorem right_plain {g : List Ty} {x y : Ty} (h : rightB g x = true) (k : rightB g y = true) (hx : x.kind = 1) (hy : y.kind = 1) : x = y := by
  have key : ∀ x : Ty, rightB g x = true → x.kind = 1 → x = ⟨1, 0, 0, false, ⟨#[]⟩, ⟨#[]⟩, 0, [], [], []⟩ := fun x h hx => by
    unfold rightB at h
    simp only [hx] at h
    simp [noNums, noBrand, noOpq, noSuper, noParts, noRows] at h
    obtain ⟨k, lo, hi, br, bd, op, su, ps, ms, os⟩ := x
    simp only at h hx
    obtain ⟨⟨⟨⟨⟨⟨h1, h2⟩, h3, h4⟩, h5⟩, h6⟩, h7⟩, h8, h9⟩ := h
    rw [hx, h1, h2, h3, h4, h5, h6, h7, h8, h9]
    rfl
  rw [key x h hx, key y k hy]
theorem super_kind {g : List Ty} {x : Ty} (h : rightB g x = true) (hs : hasSuperB x.kind = true) : isWordB (nth g x.super.toNat).kind = false := by
  unfold hasSuperB at hs
  simp only [Bool.or_eq_true, beq_iff_eq] at hs
  have hk : ([12, 6, 7, 8, 13, 4] : List Int).contains (nth g x.super.toNat).kind = true := by
    unfold rightB at h
    rcases hs with hk | hk
    · simp only [hk] at h
      simp [objectsB, objectB, overB] at h
      simp
      grind
    · simp only [hk] at h
      simp [opqB, overB] at h
      simp
      grind
  simp at hk
  unfold isWordB
  simp
  omega
theorem super_word {g : List Ty} {x : Ty} (hs : hasSuperB x.kind = true) : isWordB x.kind = false := by
  unfold hasSuperB at hs
  unfold isWordB
  simp only [Bool.or_eq_true, beq_iff_eq] at hs
  simp
  omega
theorem step_word {g : List Ty} {rs : List Reveal} (h : openE g rs = 0) {x : Nat} (hx : x < g.length) {s : Stp} (hs : StepOk g (classesOf g) rs x s) : isWordB (nth g x).kind = isWordB (nth g s.to_).kind := by
  obtain ⟨_, h400, h60, hr, hbad⟩ := opens h
  have hrev : ∀ i, i < rs.length → isWordB (nth g (nth rs i).type.toNat).kind = false := fun i hi => by
    have := hbad i hi
    unfold badRev at this
    simp only [Bool.or_eq_false_iff] at this
    exact this.1.1.2
  rcases hs with ⟨_, _, _, h4⟩ | ⟨_, _, _, h4, h5⟩ | ⟨_, _, _, h4, h5⟩ | ⟨_, _, h3, h4⟩ | ⟨_, h2, h3, h4, h5⟩ | ⟨_, h2, h3, h4, h5, h6, h7⟩ | ⟨_, _, h3, h4⟩
  · rw [classes_kind h4]
  · rw [h4]
    unfold widerB at h5
    simp only [Bool.or_eq_true, Bool.and_eq_true, beq_iff_eq] at h5
    rcases h5 with h5 | h5
    · rw [h5]; decide
    · rw [h5.1.1]
  · rw [h4, h5]; decide
  · rw [super_word (g := g) h3, h4, super_kind (hr x hx) h3]
  · rw [h3, h5, hrev _ h2]; decide
  · have := hrev _ h2
    rw [h5] at this
    have h9 : isWordB (nth g x).kind = false := by simpa using this
    rw [h6, h9]; decide
  · unfold anyP anyTo at h4
    simp only [Bool.and_eq_true, bne_iff_ne, ne_eq, beq_iff_eq] at h4
    unfold isWordB
    rw [h4.2]
    split
    · rename_i hk
      rcases hk with hk | hk <;> rw [hk] <;> rfl
    · split
      · rename_i hk
        rcases hk with hk | hk | hk | hk <;> rw [hk] <;> rfl
      · rename_i hk1 hk2
        rw [if_neg hk1, if_neg hk2] at h4
        exact absurd rfl h4.1
theorem lies_word {g : List Ty} {rs : List Reveal} (h : openE g rs = 0) {a b : Nat} (ha : a < g.length) (hl : Lies g rs a b) : isWordB (nth g a).kind = isWordB (nth g b).kind := by
  have key : b < g.length ∧ isWordB (nth g a).kind = isWordB (nth g b).kind := by
    induction hl with
    | refl => exact ⟨ha, rfl⟩
    | step _ hc ih =>
      obtain ⟨s, hs, rfl⟩ := List.mem_map.1 hc
      exact ⟨succ_ok h _ ih.1 _ hc, ih.2.trans (step_word h ih.1 (mem_steps.1 hs))⟩
  exact key.2
theorem step_lies {g : List Ty} {rs : List Reveal} {x : Nat} {s : Stp} (hs : StepOk g (classesOf g) rs x s) : Lies g rs x s.to_ := Reach.one (List.mem_map.2 ⟨s, mem_steps.2 hs, rfl⟩)
theorem same_lies {g : List Ty} {rs : List Reveal} {a b : Nat} (hb : b < g.length) (h : classesOf g a = classesOf g b) : Lies g rs a b := step_lies (s := ⟨1, b, 0⟩) (Or.inl ⟨rfl, rfl, hb, h.symm⟩)
theorem number_lies {g : List Ty} {rs : List Reveal} (h : openE g rs = 0) {a b : Nat} (ha : a < g.length) (hb : b < g.length) (hk : (nth g b).kind = 1) (h2 : (nth g a).kind = 1 ∨ (nth g a).kind = 3) : Lies g rs a b := by
  obtain ⟨_, h400, h60, hr, hbad⟩ := opens h
  rcases h2 with h2 | h2
  · exact same_lies hb (classes_eq (right_plain (hr a ha) (hr b hb) h2 hk))
  · exact step_lies (s := ⟨2, b, 0⟩) (Or.inr (Or.inl ⟨rfl, rfl, hb, h2, by unfold widerB; rw [hk]; rfl⟩))
theorem nth_append {α : Type} [Inhabited α] (l m : List α) {i : Nat} (h : i < l.length) : nth (l ++ m) i = nth l i := by
  rw [nth_eq h, nth_eq (by rw [List.length_append]; omega), List.getElem_append_left h]
theorem nth_last {α : Type} [Inhabited α] (l : List α) (x : α) : nth (l ++ [x]) l.length = x := by
  rw [nth_eq (by simp)]; simp
theorem more_step {g : List Ty} {C : Nat → Nat} {rs : List Reveal} (r : Reveal) {x : Nat} {s : Stp} (h : StepOk g C rs x s) : StepOk g C (rs ++ [r]) x s := by
  have hl : (rs ++ [r]).length = rs.length + 1 := by simp
  rcases h with h | h | h | h | ⟨h1, h2, h3, h4, h5⟩ | ⟨h1, h2, h3, h4, h5, h6, h7⟩ | h
  · exact Or.inl h
  · exact Or.inr (Or.inl h)
  · exact Or.inr (Or.inr (Or.inl h))
  · exact Or.inr (Or.inr (Or.inr (Or.inl h)))
  · exact Or.inr (Or.inr (Or.inr (Or.inr (Or.inl ⟨h1, by omega, h3, by rw [nth_append _ _ h2]; exact h4, by rw [nth_append _ _ h2]; exact h5⟩))))
  · exact Or.inr (Or.inr (Or.inr (Or.inr (Or.inr (Or.inl ⟨h1, by omega, h3, by rw [nth_append _ _ h2]; exact h4, by rw [nth_append _ _ h2]; exact h5, h6, by rw [nth_append _ _ h2]; exact h7⟩)))))
  · exact Or.inr (Or.inr (Or.inr (Or.inr (Or.inr (Or.inr h)))))
theorem more_lies {g : List Ty} {rs : List Reveal} (r : Reveal) {a b : Nat} (h : Lies g rs a b) : Lies g (rs ++ [r]) a b :=
  Reach.mono (fun x u hu => by
    obtain ⟨s, hs, rfl⟩ := List.mem_map.1 hu
    exact List.mem_map.2 ⟨s, mem_steps.2 (more_step r (mem_steps.1 hs)), rfl⟩) h
theorem revealed_lies {g : List Ty} {rs : List Reveal} {r : Reveal} {a t : Nat} (ha : a < g.length) (hk : (nth g a).kind = 13) (ho : (nth g a).opq = r.name) (hf : r.full = true) (ht : r.type = (t : Int)) : Lies g (rs ++ [r]) a t ∧ Lies g (rs ++ [r]) t a := by
  have hl : (rs ++ [r]).length = rs.length + 1 := by simp
  refine ⟨step_lies (s := ⟨5, t, rs.length⟩) (Or.inr (Or.inr (Or.inr (Or.inr (Or.inl ⟨rfl, by show rs.length < _; omega, hk, ?_, ?_⟩))))), step_lies (s := ⟨6, a, rs.length⟩) (Or.inr (Or.inr (Or.inr (Or.inr (Or.inr (Or.inl ⟨rfl, by show rs.length < _; omega, ha, ?_, ?_, hk, ?_⟩))))))⟩
  · rw [show (⟨5, t, rs.length⟩ : Stp).n = rs.length from rfl, nth_last]; exact ho.symm
  · rw [show (⟨5, t, rs.length⟩ : Stp).n = rs.length from rfl, nth_last, ht]; simp
  · rw [show (⟨6, a, rs.length⟩ : Stp).n = rs.length from rfl, nth_last]; exact hf
  · rw [show (⟨6, a, rs.length⟩ : Stp).n = rs.length from rfl, nth_last]; exact ht
  · rw [show (⟨6, a, rs.length⟩ : Stp).n = rs.length from rfl, nth_last]; exact ho
end Go.Proofs.YtjffkeoajkhbmaaGreat

namespace Go.Proofs.YtjffkeoajkhbmaaGreat
open Go.RowKit Go.Proofs Go.Shelf
set_option linter.unusedSimpArgs false
def LittlePost (w : World) (g : List Ty) (e : Ending) (w' : World) : Prop := ∃ b, e = .returned (.bool b) ∧ Ext w w' ∧ (b = true → g.length ≤ 404)
set_option maxHeartbeats 4000000 in
set_option maxRecDepth 100000 in
theorem little13 (a : Option Addr) (n c : Nat) (g : List Ty) (w : World) (hg : Graph w (.slice a n c) g) : Calls Tryz.prog 13 #[.slice a n c] w (LittlePost w g) := by
  have hb := (SlW.bound hg).2
  obtain rfl := SlW.len hg
  have Hg := Lib.hid hg
  clear hg
  rcases (show (24 < g.length ∧ g.length ≤ 400) ∨ 404 < g.length ∨ (g.length ≤ 24 ∨ (400 < g.length ∧ g.length ≤ 404)) by omega) with ⟨h1, h2⟩ | h1 | hok
  · go_enter Tryz.func13, Tryz.ntmps13
    go_wp2_with fail
    go_ret
    exact ⟨false, rfl, Ext.refl _, fun h => by cases h⟩
  · have h2 : ¬ g.length ≤ 400 := by omega
    have h3 : 24 < g.length := by omega
    go_enter Tryz.func13, Tryz.ntmps13
    go_wp2_with fail
    go_ret
    exact ⟨false, rfl, Ext.refl _, fun h => by cases h⟩
  have h404 : g.length ≤ 404 := by omega
  go_enter Tryz.func13, Tryz.ntmps13
  rcases hok with h24 | ⟨h1, h2⟩
  all_goals
    go_wp2_with fail
    go_loopw [3] (fun i wr => ∃ k : Nat, k ≤ g.length ∧ k ≤ 24 ∧ i = .int .i64 k ∧ Hid (Ext w wr)) (fun i _ => 24 - (intOf i).toNat)
    case atStart => exact ⟨0, Nat.zero_le _, Nat.zero_le _, rfl, Lib.hid (Ext.refl _)⟩
    case round =>
      obtain ⟨k, hk, hk24, rfl, hE⟩ := hrel
      by_cases hlt : k < g.length ∧ k < 24
      · obtain ⟨hlt1, hlt2⟩ := hlt
        obtain ⟨b, off, pa, pl, pc, ma, ml, mc, oa, ol, oc, hgo, hlt3, hT⟩ := Graph.at (Graph.mono hE.out Hg.out) hlt1
        cases hgo
        have d0 := hT.c0
        have d1 := hT.c1
        have d2 := hT.c2
        have d3 := hT.c3
        have d4 := hT.c4
        have d5 := hT.c5
        have d6 := hT.c6
        have d7 := hT.c7
        have d8 := hT.c8
        have d9 := hT.c9
        have s4 := hT.ok.b
        have s5 := hT.ok.o
        unfold maxBytes at s4 s5
        have bp := (SlW.bound hT.ps).2
        have bm := (SlW.bound hT.ms).2
        have bo := (SlW.bound hT.os).2
        have HT := Lib.hid hT
        clear hT
        obtain ⟨wo, hwo⟩ : ∃ wo : World, wo = wr.alloc (.cells (tyCells (nth g k) (.slice pa pl pc) (.slice ma ml mc) (.slice oa ol oc)).toArray 50) := ⟨_, rfl⟩
        obtain ⟨b4, hb4⟩ : ∃ b4, b4 = wr.heap.size := ⟨_, rfl⟩
        have hEo : Ext wr wo := by rw [hwo]; exact Ext.alloc _ _
        have hr4 : wo.heap[b4]? = some (.cells (tyCells (nth g k) (.slice pa pl pc) (.slice ma ml mc) (.slice oa ol oc)).toArray 50 (0, 0)) := by rw [hwo, hb4]; exact heap_alloc_new _ _
        have e4 : wo.cell? ⟨b4, 4, none⟩ = some (.string (nth g k).brand) := row_cell hr4 rfl
        have e5 : wo.cell? ⟨b4, 5, none⟩ = some (.string (nth g k).opq) := row_cell hr4 rfl
        have e7 : wo.cell? ⟨b4, 7, none⟩ = some (.slice pa pl pc) := row_cell hr4 rfl
        have e8 : wo.cell? ⟨b4, 8, none⟩ = some (.slice ma ml mc) := row_cell hr4 rfl
        have e9 : wo.cell? ⟨b4, 9, none⟩ = some (.slice oa ol oc) := row_cell hr4 rfl
        have l4 := row_lt hr4
        have HEo := Lib.hid (hE.out.trans hEo)
        have Hp := Lib.hid (Parts.mono hEo HT.out.ps)
        have Hme := Lib.hid (Meths.mono hEo HT.out.ms)
        have Hwo := Lib.hid hwo
        have Hb4 := Lib.hid hb4
        have Hr4 := Lib.hid hr4
        clear hwo hb4 hEo hr4
        go_upto_region 7 with (fail)
        have hw0 : Hid (wo = wr.alloc (.cells #[.int .u8 (nth g k).kind, .int .i64 (nth g k).low, .int .i64 (nth g k).high, .bool (nth g k).branded, .string (nth g k).brand, .string (nth g k).opq, .int .i64 (nth g k).super, .slice pa pl pc, .slice ma ml mc, .slice oa ol oc] 50)) := Lib.hid Hwo.out
        rw [← hw0.out, ← Hb4.out]
        clear d0 d1 d2 d3 d4 d5 d6 d7 d8 d9
        rcases (show 10 < pl ∨ (pl ≤ 10 ∧ 10 < ml) ∨ (pl ≤ 10 ∧ ml ≤ 10 ∧ 10 < ol) ∨ (pl ≤ 10 ∧ ml ≤ 10 ∧ ol ≤ 10 ∧ 30 < (nth g k).brand.size) ∨ (pl ≤ 10 ∧ ml ≤ 10 ∧ ol ≤ 10 ∧ (nth g k).brand.size ≤ 30 ∧ 40 < (nth g k).opq.size) ∨ (pl ≤ 10 ∧ ml ≤ 10 ∧ ol ≤ 10 ∧ (nth g k).brand.size ≤ 30 ∧ (nth g k).opq.size ≤ 40) by omega) with h1 | ⟨h1, h2⟩ | ⟨h1, h2, h3⟩ | ⟨h1, h2, h3, h4⟩ | ⟨h1, h2, h3, h4, h5⟩ | ⟨h1, h2, h3, h4, h5⟩
        · go_wp2_with fail
          go_ret
          exact ⟨false, rfl, HEo.out, fun h => by cases h⟩
        · go_wp2_with fail
          go_ret
          exact ⟨false, rfl, HEo.out, fun h => by cases h⟩
        · go_wp2_with fail
          go_ret
          exact ⟨false, rfl, HEo.out, fun h => by cases h⟩
        · go_wp2_with fail
          go_ret
          exact ⟨false, rfl, HEo.out, fun h => by cases h⟩
        · go_wp2_with fail
          go_ret
          exact ⟨false, rfl, HEo.out, fun h => by cases h⟩
        · go_wp2_with fail
          go_loop [5] (fun v => ∃ j : Nat, j ≤ pl ∧ v = .int .i64 j) (fun v => pl - (intOf v).toNat)
          case atStart => exact ⟨0, Nat.zero_le _, rfl⟩
          case round =>
            obtain ⟨j, hj, rfl⟩ := hrel
            by_cases hjl : j < pl
            · obtain ⟨pb, po, rfl, lpb, q0, q1, q2, -, -⟩ := Parts.at Hp.out hjl
              by_cases hnm : (nth (nth g k).parts j).name.size ≤ 20
              · go_wp2_with fail
                go_round
                case rel => exact ⟨j + 1, by omega, by go_num⟩
                case measure => simp [intOf]; omega
              · go_wp2_with fail
                go_ret
                exact ⟨false, rfl, HEo.out, fun h => by cases h⟩
            · clear e4 e5 e9
              go_wp2_with fail
              clear e7
              go_loopw [6] (fun v w2 => ∃ i : Nat, i ≤ ml ∧ v = .int .i64 i ∧ Hid (Ext wo w2)) (fun v _ => ml - (intOf v).toNat)
              case atStart => exact ⟨0, Nat.zero_le _, rfl, Lib.hid (Ext.refl _)⟩
              case round =>
                obtain ⟨i, hi, rfl, hE2⟩ := hrel
                have e8 : wr.cell? ⟨b4, 8, none⟩ = some (.slice ma ml mc) := hE2.out.cell e8
                by_cases hil : i < ml
                · obtain ⟨mb, mo, aa, al, ac, ra, rl, rc, rfl, lmb, q0, q1, q2, q3, q4, q5, q6, -, -, q9, q10⟩ := Meths.at (Meths.mono hE2.out Hme.out) hil
                  have z5 := (SlW.bound q5).2
                  have z6 := (SlW.bound q6).2
                  have HEf := Lib.hid (HEo.out.trans (hE2.out.trans (Ext.alloc _ (.cells #[.string (nth (nth g k).methods i).name, .slice aa al ac, .int .i64 (nth (nth g k).methods i).sig.result, .slice ra rl rc, .string (nth (nth g k).methods i).proc] 88))))
                  have HEg := Lib.hid (hE2.out.trans (Ext.alloc _ (.cells #[.string (nth (nth g k).methods i).name, .slice aa al ac, .int .i64 (nth (nth g k).methods i).sig.result, .slice ra rl rc, .string (nth (nth g k).methods i).proc] 88)))
                  clear q5 q6
                  rcases (show 20 < (nth (nth g k).methods i).name.size ∨ ((nth (nth g k).methods i).name.size ≤ 20 ∧ 40 < (nth (nth g k).methods i).proc.size) ∨ ((nth (nth g k).methods i).name.size ≤ 20 ∧ (nth (nth g k).methods i).proc.size ≤ 40 ∧ 8 < al) ∨ ((nth (nth g k).methods i).name.size ≤ 20 ∧ (nth (nth g k).methods i).proc.size ≤ 40 ∧ al ≤ 8 ∧ 8 < rl) ∨ ((nth (nth g k).methods i).name.size ≤ 20 ∧ (nth (nth g k).methods i).proc.size ≤ 40 ∧ al ≤ 8 ∧ rl ≤ 8) by omega) with y1 | ⟨y1, y2⟩ | ⟨y1, y2, y3⟩ | ⟨y1, y2, y3, y4⟩ | ⟨y1, y2, y3, y4⟩
                  · go_wp2_with fail
                    go_ret
                    exact ⟨false, rfl, HEf.out, fun h => by cases h⟩
                  · go_wp2_with fail
                    go_ret
                    exact ⟨false, rfl, HEf.out, fun h => by cases h⟩
                  · go_wp2_with fail
                    go_ret
                    exact ⟨false, rfl, HEf.out, fun h => by cases h⟩
                  · go_wp2_with fail
                    go_ret
                    exact ⟨false, rfl, HEf.out, fun h => by cases h⟩
                  · go_wp2_with fail
                    go_roundw
                    case rel => exact ⟨i + 1, by omega, by go_num, HEg⟩
                    case measure => simp [intOf]; omega
                · have HEf := Lib.hid (HEo.out.trans hE2.out)
                  go_wp2_with fail
                  go_roundw
                  case rel => exact ⟨k + 1, by omega, by omega, by go_num, HEf⟩
                  case measure => simp [intOf]; omega
      · rcases (show k = g.length ∨ (k < g.length ∧ k = 24) by omega) with rfl | ⟨hq1, rfl⟩
        · first
          | (exfalso; omega)
          | (go_wp2_with fail
             go_ret
             exact ⟨true, rfl, hE.out, fun _ => h404⟩)
        · first
          | (exfalso; omega)
          | (go_wp2_with fail
             go_ret
             exact ⟨true, rfl, hE.out, fun _ => h404⟩)
end Go.Proofs.YtjffkeoajkhbmaaGreat

namespace Go.Proofs.YtjffkeoajkhbmaaGreat
open Go.RowKit Go.Proofs Go.Shelf
set_option linter.unusedSimpArgs false
def Holds (w : World) (e : Ending) (w' : World) : Prop := e = .returned (.bool true) ∧ Ext w w'
set_option maxRecDepth 100000 in
set_option maxHeartbeats 4000000 in
theorem subNil11 (a b : Int) (s : BA) (w : World) (hs : s.size ≤ 9223372036854775807) : Calls Tryz.prog 11 #[.int .i64 a, .int .i64 b, .string s] w (Holds w) := by
  by_cases h100 : s.size ≤ 100
  · go_enter Tryz.func11, Tryz.ntmps11
    go_wp2_with fail
    refine (belowNil17 _ _ _).mono ?_
    rintro e w1 ⟨rfl, hE⟩
    have HE := Lib.hid hE
    clear hE
    go_wp2_with fail
    refine (aboveNil19 _ _).mono ?_
    rintro e w2 ⟨rfl, hE⟩
    have HE := Lib.hid (HE.out.trans hE)
    clear hE
    go_wp2_with fail
    refine (deriveNil38 _ _ _).mono ?_
    rintro e w3 ⟨rfl, hE⟩
    have HE := Lib.hid (HE.out.trans hE)
    clear hE
    go_wp2_with fail
    refine (checkDeriveNil36 _ _ _ _ _ _).mono ?_
    rintro e w4 ⟨rfl, hE⟩
    have HE := Lib.hid (HE.out.trans hE)
    clear hE
    go_wp2_with fail
    refine (joinNil21 _ _ _).mono ?_
    rintro e w5 ⟨rfl, hE⟩
    have HE := Lib.hid (HE.out.trans hE)
    clear hE
    go_wp2_with fail
    refine (assignNil28 _ _ _).mono ?_
    rintro e w6 ⟨rfl, hE⟩
    have HE := Lib.hid (HE.out.trans hE)
    clear hE
    go_wp2_with fail
    obtain ⟨w7, hw7⟩ : ∃ w7 : World, w7 = w6.alloc (.cells #[.int .u8 0, .int .i64 0, .int .i64 0] 56) := ⟨_, rfl⟩
    obtain ⟨k6, hk6⟩ : ∃ k6, k6 = w6.heap.size := ⟨_, rfl⟩
    rw [← hw7, ← hk6]
    have hE : Ext w6 w7 := by rw [hw7]; exact Ext.alloc _ _
    have HK := Lib.hid (show w7.heap[k6]? = some (.cells #[.int .u8 0, .int .i64 0, .int .i64 0] 56 (0, 0)) from by rw [hw7, hk6]; exact heap_alloc_new _ _)
    have HE := Lib.hid (HE.out.trans hE)
    clear hE hw7 hk6
    refine (lineNil26 _ _).mono ?_
    rintro e w8 ⟨rfl, hE⟩
    have HE := Lib.hid (HE.out.trans hE)
    have HK := Lib.hid ((hE.block _ (row_lt HK.out)).trans HK.out)
    clear hE
    go_wp2_with fail
    refine (fieldNil31 _ _ _).mono ?_
    rintro e w9 ⟨rfl, hE⟩
    have HE := Lib.hid (HE.out.trans hE)
    have HK := Lib.hid ((hE.block _ (row_lt HK.out)).trans HK.out)
    clear hE
    go_wp2_with fail
    refine (methodNil33 _ _ _).mono ?_
    rintro e w10 ⟨rfl, hE⟩
    have HE := Lib.hid (HE.out.trans hE)
    have HK := Lib.hid ((hE.block _ (row_lt HK.out)).trans HK.out)
    clear hE
    go_wp2_with fail
    obtain ⟨w11, hw11⟩ : ∃ w11 : World, w11 = w10.alloc (.cells #[.int .i64 3, .int .i64 3, .int .i64 3, .int .i64 3, .int .i64 3, .int .i64 3, .int .i64 3, .int .i64 3, .int .i64 3] 32) := ⟨_, rfl⟩
    obtain ⟨k10, hk10⟩ : ∃ k10, k10 = w10.heap.size := ⟨_, rfl⟩
    rw [← hw11, ← hk10]
    have hE : Ext w10 w11 := by rw [hw11]; exact Ext.alloc _ _
    have hr : w11.heap[k10]? = some (.cells #[.int .i64 3, .int .i64 3, .int .i64 3, .int .i64 3, .int .i64 3, .int .i64 3, .int .i64 3, .int .i64 3, .int .i64 3] 32 (0, 0)) := by rw [hw11, hk10]; exact heap_alloc_new _ _
    have HE := Lib.hid (HE.out.trans hE)
    have HK := Lib.hid ((hE.block _ (row_lt HK.out)).trans HK.out)
    have hcell : ∀ k, k < 9 → w11.cell? ⟨k10, k, none⟩ = some (.int .i64 3) := fun k hk => by
      rcases (show k = 0 ∨ k = 1 ∨ k = 2 ∨ k = 3 ∨ k = 4 ∨ k = 5 ∨ k = 6 ∨ k = 7 ∨ k = 8 by omega) with rfl | rfl | rfl | rfl | rfl | rfl | rfl | rfl | rfl <;> exact row_cell hr rfl
    have Hcell := Lib.hid hcell
    clear hE hw11 hk10 hr hcell
    go_loop [31] (fun i => ∃ k : Nat, k ≤ 9 ∧ i = .int .i64 k) (fun i => 9 - (intOf i).toNat)
    case atStart => exact ⟨0, by omega, rfl⟩
    case round =>
      obtain ⟨k, hk, rfl⟩ := hrel
      by_cases hlt : k < 9
      · have hc := Hcell.out k hlt
        go_wp2_with fail
        go_round
        case rel => exact ⟨k + 1, by omega, by go_num⟩
        case measure => simp [intOf]; omega
      · go_wp2_with fail
        refine (ordered15 _).mono ?_
        rintro e w12 ⟨rfl, hE⟩
        have hK := (hE.block _ (row_lt HK.out)).trans HK.out
        have HE := Lib.hid (HE.out.trans hE)
        have k0 := row_cell hK (j := 0) rfl
        have k1 := row_cell hK (j := 1) rfl
        have k2 := row_cell hK (j := 2) rfl
        clear hE hK HK Hcell
        go_wp2_with fail
        go_ret
        exact ⟨rfl, HE.out⟩
  · go_enter Tryz.func11, Tryz.ntmps11
    go_wp2_with fail
    refine (ordered15 _).mono ?_
    rintro e w1 ⟨rfl, hE⟩
    have HE := Lib.hid hE
    clear hE
    go_wp2_with fail
    go_ret
    exact ⟨rfl, HE.out⟩
end Go.Proofs.YtjffkeoajkhbmaaGreat

namespace Go.Proofs.YtjffkeoajkhbmaaGreat
open Go.RowKit Go.Proofs Go.Shelf
set_option linter.unusedSimpArgs false
theorem below_val {g : List Ty} {rs : List Reveal} (h : openE g rs = 0) {a b : Nat} (ha : a < g.length) (hb : b < g.length) : ∃ p, belowQ g rs a b = (p, 0) ∧ (p = true ↔ Lies g rs a b) := by
  obtain ⟨h1, h2⟩ := belowQ_iff h ha hb
  exact ⟨_, Prod.ext rfl h1, h2⟩
theorem below_bad {g : List Ty} {rs : List Reveal} {a b : Int} (h : askedR g.length [a, b] = 1) : belowQ g rs a b = (false, 1) := by
  unfold belowQ belowR
  rw [if_neg (by rw [h]; decide)]
theorem mem_common {g : List Ty} {rs : List Reveal} (h : openE g rs = 0) {a b i : Nat} (ha : a < g.length) (hb : b < g.length) : i ∈ commonL g.length (reachL g rs g.length) a b ↔ Lies g rs a i ∧ Lies g rs b i := by
  unfold commonL
  simp only [List.mem_filter, List.mem_range, Bool.and_eq_true, bit_lies h ha, bit_lies h hb]
  exact ⟨fun k => k.2, fun k => ⟨lies_lt h ha k.1, k⟩⟩
structure JoinsAt (g : List Ty) (rs : List Reveal) (a b c : Nat) (bl : Bool) : Prop where
  lt : c < g.length
  join : joinQ g rs a b = ((c : Int), true, 0)
  below : belowQ g rs a b = (bl, 0)
  one : belowQ g rs a c = (true, 0)
  two : belowQ g rs b c = (true, 0)
  least : ∀ d : Nat, d < g.length → ∃ p q r, belowQ g rs a d = (p, 0) ∧ belowQ g rs b d = (q, 0) ∧ belowQ g rs c d = (r, 0) ∧ (p = true → q = true → r = true)
  back : bl = true → belowQ g rs c b = (true, 0)
theorem joins_law {g : List Ty} {rs : List Reveal} (h : openE g rs = 0) {a b : Nat} (ha : a < g.length) (hb : b < g.length) :
    (joinQ g rs a b = (0, false, 0) ∧ belowQ g rs a b = (false, 0)) ∨ ∃ c bl, JoinsAt g rs a b c bl := by
  obtain ⟨bl, e1, e2⟩ := below_val h ha hb
  unfold joinQ joinR
  rw [if_pos (asked_two ha hb)]
  simp only [Int.toNat_natCast]
  cases hj : joinL g.length (reachL g rs g.length) a b with
  | none =>
    refine Or.inl ⟨rfl, ?_⟩
    cases bl
    · exact e1
    · exfalso
      have hl := e2.1 rfl
      unfold joinL at hj
      rw [List.find?_eq_none] at hj
      refine hj b ((mem_common h ha hb).2 ⟨hl, Reach.refl⟩) ?_
      rw [List.all_eq_true]
      intro u hu
      exact (bit_lies h hb).2 ((mem_common h ha hb).1 hu).2
  | some c =>
    have hc := List.mem_of_find?_eq_some hj
    have hall := List.find?_some hj
    have hc2 := (mem_common h ha hb).1 hc
    have hcn := lies_lt h ha hc2.1
    rw [List.all_eq_true] at hall
    have hle : ∀ u, Lies g rs a u → Lies g rs b u → Lies g rs c u := fun u h1 h2 => (bit_lies h hcn).1 (hall u ((mem_common h ha hb).2 ⟨h1, h2⟩))
    have yes : ∀ {x y : Nat}, x < g.length → y < g.length → Lies g rs x y → belowQ g rs x y = (true, 0) := fun hx hy hl => by
      obtain ⟨p, e, k⟩ := below_val h hx hy
      rw [e, k.2 hl]
    refine Or.inr ⟨c, bl, hcn, ?_, e1, yes ha hcn hc2.1, yes hb hcn hc2.2, fun d hd => ?_, fun hbl => yes hcn hb (hle b (e2.1 hbl) Reach.refl)⟩
    · unfold joinQ joinR
      rw [if_pos (asked_two ha hb)]
      simp only [Int.toNat_natCast, hj]
    · obtain ⟨p, p1, p2⟩ := below_val h ha hd
      obtain ⟨q, q1, q2⟩ := below_val h hb hd
      obtain ⟨r, r1, r2⟩ := below_val h hcn hd
      exact ⟨p, q, r, p1, q1, r1, fun hp hq => r2.2 (hle d (p2.1 hp) (q2.1 hq))⟩
theorem join_bad {g : List Ty} {rs : List Reveal} {a b : Int} (h : askedR g.length [a, b] = 1) : joinQ g rs a b = (0, false, 1) := by
  unfold joinQ joinR
  rw [if_neg (by rw [h]; decide)]
theorem i64_nat {n k : Nat} (hk : k < n) (hn : n ≤ 400) : I64 (k : Int) := ⟨by omega, by omega⟩
set_option maxRecDepth 100000 in
set_option maxHeartbeats 4000000 in
theorem subJoins5 (ga : Option Addr) (gn gc : Nat) (g : List Ty) (ra : Option Addr) (rn rc : Nat) (rs : List Reveal) (a b : Int) (w : World) (hg : Graph w (.slice ga gn gc) g) (hre : Reveals w (.slice ra rn rc) rs) (hx : I64 a) (hy : I64 b) :
    Calls Tryz.prog 5 #[.slice ga gn gc, .slice ra rn rc, .int .i64 a, .int .i64 b] w (Holds w) := by
  have Hg := Lib.hid hg
  have Hre := Lib.hid hre
  obtain rfl := SlW.len hg
  have hgb := (SlW.bound hg).2
  have Hx := Lib.hid hx
  have Hy := Lib.hid hy
  clear hg hre hx hy
  go_enter Tryz.func5, Tryz.ntmps5
  go_wp2_with fail
  refine (little13 _ _ _ g w Hg.out).mono ?_
  rintro e w1 ⟨bl, rfl, hE, hl⟩
  have HE := Lib.hid hE
  have Hl := Lib.hid hl
  clear hE hl
  cases bl
  · go_wp2_with fail
    refine (ordered15 _).mono ?_
    rintro e wN ⟨rfl, hE⟩
    have HE := Lib.hid (HE.out.trans hE)
    clear hE
    go_wp2_with fail
    go_ret
    exact ⟨rfl, HE.out⟩
  go_wp2_with fail
  refine (few14 _ _ _ rs w1 (Reveals.mono HE.out Hre.out)).mono ?_
  rintro e w2 ⟨bf, rfl, hE, hf⟩
  have HE := Lib.hid (HE.out.trans hE)
  have Hf := Lib.hid hf
  clear hE hf
  cases bf
  · go_wp2_with fail
    refine (ordered15 _).mono ?_
    rintro e wN ⟨rfl, hE⟩
    have HE := Lib.hid (HE.out.trans hE)
    clear hE
    go_wp2_with fail
    go_ret
    exact ⟨rfl, HE.out⟩
  go_wp2_with fail
  refine (inA _ _ _ g _ _ _ rs w2 (Graph.mono HE.out Hg.out) (Reveals.mono HE.out Hre.out)).mono ?_
  rintro e w3 ⟨hE, (⟨h0, vb, rfl, hA⟩ | ⟨h0, rfl⟩)⟩
  rotate_left
  · have HE := Lib.hid (HE.out.trans hE)
    have hne : ((openE g rs : Int) != 0) = true := by simpa using h0
    clear hE h0
    go_wp2_with fail
    refine (ordered15 _).mono ?_
    rintro e wN ⟨rfl, hE⟩
    have HE := Lib.hid (HE.out.trans hE)
    clear hE
    go_wp2_with fail
    go_ret
    exact ⟨rfl, HE.out⟩
  have HE := Lib.hid (HE.out.trans hE)
  have HA := Lib.hid hA
  have H0 := Lib.hid h0
  clear hE hA h0
  have h400 := (opens H0.out).2.1
  rcases asked01 g.length [a, b] with hk | hk
  rotate_left
  · have hj := Lib.hid (joinV HA.out a b Hx.out Hy.out _ _ _ (join_bad hk))
    have Hk := Lib.hid hk
    clear hk
    go_wp2_with fail
    refine hj.out.mono ?_
    rintro e w4 ⟨rfl, hE⟩
    have HE := Lib.hid (HE.out.trans hE)
    have HA := Lib.hid (HA.out.mono hE)
    clear hE hj
    go_wp2_with fail
    refine (belowV HA.out a b Hx.out Hy.out _ _ (below_bad Hk.out)).mono ?_
    rintro e w5 ⟨rfl, hE⟩
    have HE := Lib.hid (HE.out.trans hE)
    clear hE
    go_wp2_with fail
    refine (ordered15 _).mono ?_
    rintro e wN ⟨rfl, hE⟩
    have HE := Lib.hid (HE.out.trans hE)
    clear hE
    go_wp2_with fail
    go_ret
    exact ⟨rfl, HE.out⟩
  obtain ⟨x, y, rfl, rfl, hx1, hy1⟩ := two_in hk
  clear hk
  rcases joins_law H0.out hx1 hy1 with ⟨hj, hbl⟩ | ⟨c, bl, hJ⟩
  · have Hj := Lib.hid hj
    have Hb := Lib.hid hbl
    clear hj hbl
    go_wp2_with fail
    refine (joinV HA.out x y Hx.out Hy.out _ _ _ Hj.out).mono ?_
    rintro e w4 ⟨rfl, hE⟩
    have HE := Lib.hid (HE.out.trans hE)
    have HA := Lib.hid (HA.out.mono hE)
    clear hE
    go_wp2_with fail
    refine (belowV HA.out x y Hx.out Hy.out _ _ Hb.out).mono ?_
    rintro e w5 ⟨rfl, hE⟩
    have HE := Lib.hid (HE.out.trans hE)
    clear hE
    go_wp2_with fail
    refine (ordered15 _).mono ?_
    rintro e wN ⟨rfl, hE⟩
    have HE := Lib.hid (HE.out.trans hE)
    clear hE
    go_wp2_with fail
    go_ret
    exact ⟨rfl, HE.out⟩
  have HJ := Lib.hid hJ
  have hcn := hJ.lt
  clear hJ
  go_wp2_with fail
  refine (joinV HA.out x y Hx.out Hy.out _ _ _ HJ.out.join).mono ?_
  rintro e w4 ⟨rfl, hE⟩
  have HE := Lib.hid (HE.out.trans hE)
  have HA := Lib.hid (HA.out.mono hE)
  clear hE
  go_wp2_with fail
  refine (belowV HA.out x y Hx.out Hy.out _ _ HJ.out.below).mono ?_
  rintro e w5 ⟨rfl, hE⟩
  have HE := Lib.hid (HE.out.trans hE)
  have HA := Lib.hid (HA.out.mono hE)
  clear hE
  go_wp2_with fail
  refine (belowV HA.out x c Hx.out (i64_nat hcn h400) _ _ HJ.out.one).mono ?_
  rintro e w6 ⟨rfl, hE⟩
  have HE := Lib.hid (HE.out.trans hE)
  have HA := Lib.hid (HA.out.mono hE)
  clear hE
  go_wp2_with fail
  refine (belowV HA.out y c Hy.out (i64_nat hcn h400) _ _ HJ.out.two).mono ?_
  rintro e w7 ⟨rfl, hE⟩
  have HE := Lib.hid (HE.out.trans hE)
  have HA := Lib.hid (HA.out.mono hE)
  clear hE
  go_wp2_with fail
  go_loopw [20] (fun i wr => ∃ k : Nat, k ≤ g.length ∧ i = .int .i64 k ∧ Hid (Ext w wr ∧ EnvA wr vb g rs)) (fun i _ => g.length - (intOf i).toNat)
  case atStart => exact ⟨0, Nat.zero_le _, rfl, Lib.hid ⟨HE.out, HA.out⟩⟩
  case round =>
    clear HE HA
    obtain ⟨k, hk, rfl, hH⟩ := hrel
    have HE := Lib.hid hH.out.1
    have HA := Lib.hid hH.out.2
    clear hH
    by_cases hlt : k < g.length
    · obtain ⟨p, q, r, hp, hq, hr, hpq⟩ := HJ.out.least k hlt
      have Hp := Lib.hid hp
      have Hq := Lib.hid hq
      have Hr := Lib.hid hr
      clear hp hq hr
      go_wp2_with fail
      refine (belowV HA.out x k Hx.out (i64_nat hlt h400) _ _ Hp.out).mono ?_
      rintro e w8 ⟨rfl, hE⟩
      have HE := Lib.hid (HE.out.trans hE)
      have HA := Lib.hid (HA.out.mono hE)
      clear hE
      go_wp2_with fail
      refine (belowV HA.out y k Hy.out (i64_nat hlt h400) _ _ Hq.out).mono ?_
      rintro e w9 ⟨rfl, hE⟩
      have HE := Lib.hid (HE.out.trans hE)
      have HA := Lib.hid (HA.out.mono hE)
      clear hE
      go_wp2_with fail
      refine (belowV HA.out c k (i64_nat hcn h400) (i64_nat hlt h400) _ _ Hr.out).mono ?_
      rintro e w10 ⟨rfl, hE⟩
      have HE := Lib.hid (HE.out.trans hE)
      have HA := Lib.hid (HA.out.mono hE)
      clear hE Hp Hq Hr
      cases p <;> cases q <;> cases r
      all_goals try (exact absurd (hpq rfl rfl) (by decide))
      all_goals
        clear hpq
        go_wp2_with fail
        go_roundw
        case rel => exact ⟨k + 1, by omega, by go_num, Lib.hid ⟨HE.out, HA.out⟩⟩
        case measure => simp [intOf]; omega
    · cases bl
      · go_wp2_with fail
        refine (ordered15 _).mono ?_
        rintro e wN ⟨rfl, hE⟩
        have HE := Lib.hid (HE.out.trans hE)
        clear hE
        go_wp2_with fail
        go_ret
        exact ⟨rfl, HE.out⟩
      · go_wp2_with fail
        refine (belowV HA.out c y (i64_nat hcn h400) Hy.out _ _ (HJ.out.back rfl)).mono ?_
        rintro e w8 ⟨rfl, hE⟩
        have HE := Lib.hid (HE.out.trans hE)
        clear hE
        go_wp2_with fail
        refine (ordered15 _).mono ?_
        rintro e wN ⟨rfl, hE⟩
        have HE := Lib.hid (HE.out.trans hE)
        clear hE
        go_wp2_with fail
        go_ret
        exact ⟨rfl, HE.out⟩
end Go.Proofs.YtjffkeoajkhbmaaGreat

namespace Go.Proofs.YtjffkeoajkhbmaaGreat
open Go.RowKit Go.Proofs
set_option linter.unusedSimpArgs false
theorem flat_at {sz : Nat} : ∀ {css : List (List Value)} {i : Nat} {cs : List Value} {j : Nat}, (∀ c, c ∈ css → c.length = sz) → css[i]? = some cs → j < sz → css.flatten[i * sz + j]? = cs[j]?
  | c :: css, 0, cs, j, h, hi, hj => by
    have hc := h c (by simp)
    simp only [List.getElem?_cons_zero, Option.some.injEq] at hi
    subst hi
    rw [List.flatten_cons, Nat.zero_mul, Nat.zero_add, List.getElem?_append_left (by omega)]
  | c :: css, i + 1, cs, j, h, hi, hj => by
    have hc := h c (by simp)
    simp only [List.getElem?_cons_succ] at hi
    rw [List.flatten_cons, Nat.succ_mul, List.getElem?_append_right (by omega), ← flat_at (fun c hc => h c (by simp [hc])) hi hj]
    congr 1
    omega
  | [], _, _, _, _, hi, _ => by simp at hi
theorem flat_len {sz : Nat} : ∀ {css : List (List Value)}, (∀ c, c ∈ css → c.length = sz) → css.flatten.length = css.length * sz
  | [], _ => by simp
  | c :: css, h => by
    rw [List.flatten_cons, List.length_append, flat_len (fun c hc => h c (by simp [hc])), h c (by simp), List.length_cons, Nat.succ_mul]
    omega
def OwnL {α : Type} (R : α → List Value → Prop) (e : TypeId) (sz : Nat) (w : World) (base : Nat) (v : Value) (xs : List α) : Prop :=
  ∃ css : List (List Value), css.length = xs.length ∧ (∀ (i : Nat) x cs, xs[i]? = some x → css[i]? = some cs → R x cs) ∧ (∀ c, c ∈ css → c.length = sz) ∧ w.ownsRow base e sz v xs.length css.flatten
section
variable {α : Type} {R : α → List Value → Prop} {e : TypeId} {sz : Nat} {w : World} {base : Nat} {v : Value} {xs ys : List α}
theorem OwnL.slw (h : OwnL R e sz w base v xs) (hb : xs.length * (8 * sz) ≤ maxBytes) : SlW (fun _ => R) sz w v xs := by
  obtain ⟨css, hl, hR, hsz, hown⟩ := h
  have key : ∀ b, v.ownBlock = some b → ∀ (i : Nat) x, xs[i]? = some x → ∃ cs, R x cs ∧ cs.length = sz ∧ ∀ j u, cs[j]? = some u → w.cell? ⟨b, 0 + i * sz + j, none⟩ = some u := fun b hvb i x hi => by
    have hil := (List.getElem?_eq_some_iff.1 hi).1
    obtain ⟨cs, hcs⟩ : ∃ cs, css[i]? = some cs := ⟨_, List.getElem?_eq_getElem (by omega)⟩
    refine ⟨cs, hR i x cs hi hcs, hsz cs (List.mem_of_getElem? hcs), fun j u hj => ?_⟩
    have hjl : j < sz := by have := (List.getElem?_eq_some_iff.1 hj).1; have := hsz cs (List.mem_of_getElem? hcs); omega
    have := hown.cells hvb (i * sz + j) u (by rw [flat_at hsz hcs hjl]; exact hj)
    rw [Addr.add_lit] at this
    rw [Nat.zero_add] at this ⊢
    exact this
  rcases id hown.2 with ⟨rfl, h0⟩ | ⟨g, cap, cur, rfl, _, _, hc, _, _, _⟩
  · have : xs = [] := List.eq_nil_of_length_eq_zero h0
    subst this
    exact SlW.nil _ _ _
  · exact ⟨_, _, rfl, hc, hb, fun i x hi => by
      obtain ⟨cs, k1, k2, k3⟩ := key g rfl i x hi
      exact ⟨g, 0, cs, rfl, k1, k2, k3⟩⟩
theorem OwnL.lt (h : OwnL R e sz w base v xs) : ∀ k, v.ownBlock = some k → base ≤ k ∧ k < w.heap.size := by
  obtain ⟨css, hl, hR, hsz, hown⟩ := h
  exact hown.lt
theorem OwnL.kept {w' : World} {row : Option Nat} (h : OwnL R e sz w base v xs) (hg : w.grownBy w' row) (hne : v.ownBlock = none ∨ v.ownBlock ≠ row) : OwnL R e sz w' base v xs := by
  obtain ⟨css, hl, hR, hsz, hown⟩ := h
  exact ⟨css, hl, hR, hsz, hown.kept hg hne⟩
theorem OwnL.nil (w : World) : OwnL R e sz w base (.slice none 0 0) ([] : List α) := ⟨[], rfl, fun i x cs h => by simp at h, fun c h => by simp at h, World.ownsRow_nil _ _ _ _⟩
theorem OwnL.made (w : World) (cur : Array Value) (cap : Nat) (hb : base ≤ w.heap.size) (hm : cap ≤ maxLen) (hs : cur.size = cap * sz) : OwnL R e sz (w.alloc (.cells cur e)) base (.slice (some ⟨w.heap.size, 0, none⟩) 0 cap) ([] : List α) :=
  ⟨[], rfl, fun i x cs h => by simp at h, fun c h => by simp at h, World.ownsRow_made w cur cap hb hm hs⟩
theorem SlW.flat {a : Addr} {n c : Nat} (h : SlW (fun _ => R) sz w (.slice (some a) n c) xs) : ∃ css : List (List Value), css.length = xs.length ∧ (∀ (i : Nat) x cs, xs[i]? = some x → css[i]? = some cs → R x cs) ∧ (∀ c, c ∈ css → c.length = sz) ∧ ∀ j u, css.flatten[j]? = some u → w.cell? (a.add j) = some u := by
  obtain ⟨a', c', he, hlc, hb, hx⟩ := h
  cases he
  have key : ∀ k, k ≤ xs.length → ∃ css : List (List Value), css.length = k ∧ (∀ (i : Nat) x cs, xs[i]? = some x → css[i]? = some cs → R x cs) ∧ (∀ c, c ∈ css → c.length = sz) ∧ ∀ j u, css.flatten[j]? = some u → w.cell? (a.add j) = some u := by
    intro k
    induction k with
    | zero => exact fun _ => ⟨[], rfl, fun i x cs _ h => by simp at h, fun c h => by simp at h, fun j u h => by simp at h⟩
    | succ k ih =>
      intro hk
      obtain ⟨css, h1, h2, h3, h4⟩ := ih (by omega)
      obtain ⟨x, hi⟩ : ∃ x, xs[k]? = some x := ⟨_, List.getElem?_eq_getElem (by omega)⟩
      obtain ⟨b, off, cs, ha, hr, hl, hc⟩ := hx k x hi
      cases ha
      refine ⟨css ++ [cs], by simp [h1], fun i y ds hy hd => ?_, fun c hc => ?_, fun j u hu => ?_⟩
      · rcases Nat.lt_or_ge i css.length with hlt | hge
        · rw [List.getElem?_append_left hlt] at hd
          exact h2 i y ds hy hd
        · have hil := (List.getElem?_eq_some_iff.1 hd).1
          simp at hil
          have : i = k := by omega
          subst this
          rw [List.getElem?_append_right (by omega), h1] at hd
          simp at hd
          subst hd
          rw [hi] at hy
          cases hy
          exact hr
      · rcases List.mem_append.1 hc with h | h
        · exact h3 c h
        · rw [List.mem_singleton.1 h]; exact hl
      · rw [List.flatten_append] at hu
        have hfl := flat_len h3
        rw [h1] at hfl
        rcases Nat.lt_or_ge j (k * sz) with hlt | hge
        · rw [List.getElem?_append_left (by omega)] at hu
          exact h4 j u hu
        · rw [List.getElem?_append_right (by omega), hfl] at hu
          simp only [List.flatten_cons, List.flatten_nil, List.append_nil] at hu
          have := hc _ u hu
          rw [Addr.add_lit, show off + j = off + k * sz + (j - k * sz) by omega]
          exact this
  exact key xs.length (Nat.le_refl _)
end
theorem run_append_list {P : Program} {α : Type} {R : α → List Value → Prop} {w : World} {xs ys : List α} (base : Nat) (t ty e : TypeId) (i : TypeInfo) (z : Value) (size bytes : Nat) (ht : P.underlying t = some (.slice e)) (hi : P.info? e = some i) (hz : i.zero = some z)
    (hsize : i.size = size) (hby : i.bytes = bytes) (hzs : z.cells.size = size) (hsz : 0 < size) (v x : Value) (hown : OwnL R e size w base v xs) (hx : SlW (fun _ => R) size w x ys) (hone : ∀ y cs, R y cs → ∀ u, u ∈ cs → u.oneCell' = true)
    (h63 : xs.length + ys.length ≤ maxLen) (hbytes : (xs.length + ys.length) * bytes ≤ 140737488355328) (hbase : base ≤ w.heap.size) :
    ∃ v' w', (Builtin.append_ #[t, t] ty #[v, x]).run P w = .ok v' w' ∧ OwnL R e size w' base v' (xs ++ ys) ∧ w.grownBy w' v.ownBlock ∧ (v'.ownBlock = v.ownBlock ∨ v'.ownBlock = some w.heap.size) := by
  obtain ⟨xa, xc, rfl, hxc, hxb, hx1⟩ := id hx
  obtain ⟨css, hl, hR, hcs, hrow⟩ := id hown
  cases xa with
  | none =>
    have h0 : ys = [] := by
      cases ys with
      | nil => rfl
      | cons y ys =>
        obtain ⟨b, off, cs, hn, _⟩ := hx1 0 y rfl
        cases hn
    subst h0
    refine ⟨v, w, ?_, by rw [List.append_nil]; exact hown, ⟨rfl, rfl, rfl, Nat.le_refl _, fun _ _ _ => rfl⟩, Or.inl rfl⟩
    rcases id hrow.2 with ⟨rfl, h0⟩ | ⟨g, cap, cur, rfl, _, _, hc, _, _, _⟩
    · exact run_append_nothing w t t ty e i ht hi none 0 0 (Nat.le_refl _) _ (Src.ofNil w ht xc)
    · exact run_append_nothing w t t ty e i ht hi _ _ cap hc _ (Src.ofNil w ht xc)
  | some ad =>
    obtain ⟨dss, dl, dR, ds, dc⟩ := SlW.flat hx
    have hd1 : ∀ u, u ∈ dss.flatten → u.oneCell' = true := fun u hu => by
      obtain ⟨cs, hc, hu⟩ := List.mem_flatten.1 hu
      obtain ⟨k, hk, hke⟩ := List.mem_iff_getElem.1 hc
      exact hone _ cs (dR k _ cs (List.getElem?_eq_getElem (by omega)) (by rw [List.getElem?_eq_getElem hk, hke])) u hu
    obtain ⟨v', w', hr, h2, h3, h4, h5⟩ := run_append_own_at (P := P) w base t ty e i z size bytes ht hi hz hsize hby hzs hsz v xs.length css.flatten hrow ad ys.length xc dss.flatten (by rw [flat_len ds, dl]) dc hd1 h63 hbytes hbase
    refine ⟨v', w', hr, ⟨css ++ dss, by simp [hl, dl], fun k x cs hk hc => ?_, fun c hc => ?_, ?_⟩, h3, h5⟩
    · rcases Nat.lt_or_ge k xs.length with hlt | hge
      · rw [List.getElem?_append_left (by omega)] at hk hc
        exact hR k x cs hk hc
      · rw [List.getElem?_append_right (by omega)] at hk hc
        rw [hl] at hc
        exact dR _ x cs hk hc
    · rcases List.mem_append.1 hc with h | h
      · exact hcs c h
      · exact ds c h
    · rw [List.flatten_append, List.length_append]
      exact h2
theorem wp_append_list {P : Program} {o : Oper} {a : Act} {w : World} {K : Act → World → Prop} {Q : Exit → Act → World → Prop} {α : Type} {R : α → List Value → Prop} {xs ys : List α} (s x : Operand) (t : TypeId)
    (ho : o.op = .call { callee := .builtin .append, args := #[s, x], argTypes := #[t, t] })
    (base : Nat) (e : TypeId) (i : TypeInfo) (z : Value) (size bytes : Nat) (ht : P.underlying t = some (.slice e)) (hi : P.info? e = some i) (hz : i.zero = some z)
    (hsize : i.size = size) (hby : i.bytes = bytes) (hzs : z.cells.size = size) (hsz : 0 < size)
    (v xv : Value) (hs : a.eval s = v) (hown : OwnL R e size w base v xs) (hx : a.eval x = xv) (hsl : SlW (fun _ => R) size w xv ys) (hone : ∀ y cs, R y cs → ∀ u, u ∈ cs → u.oneCell' = true)
    (h63 : xs.length + ys.length ≤ maxLen) (hbytes : (xs.length + ys.length) * bytes ≤ 140737488355328) (hbase : base ≤ w.heap.size)
    (h : ∀ v' w', OwnL R e size w' base v' (xs ++ ys) → w.grownBy w' v.ownBlock → (v'.ownBlock = v.ownBlock ∨ v'.ownBlock = some w.heap.size) → K (a.put o.dst v') w') :
    o.wp P a w K Q := by
  obtain ⟨v', w', hr, h2, h3, h4⟩ := run_append_list (P := P) base t o.type e i z size bytes ht hi hz hsize hby hzs hsz v xv hown hsl hone h63 hbytes hbase
  unfold Oper.wp execOp
  simp only [ho, resolve, invoke, builtin, Sem.run_bind, Sem.run_pure, Result.andThen_ok, List.map_toArray, List.map_cons, List.map_nil, hs, hx, hr]
  exact h v' w' h2 h3 h4
end Go.Proofs.YtjffkeoajkhbmaaGreat

namespace Go.Proofs.YtjffkeoajkhbmaaGreat
open Go.RowKit Go.Proofs Go.Shelf
set_option linter.unusedSimpArgs false
theorem more_below {g : List Ty} {rs : List Reveal} {r : Reveal} (h1 : openE g rs = 0) (h2 : openE g (rs ++ [r]) = 0) {a b : Nat} (ha : a < g.length) (hb : b < g.length) :
    ∃ p q, belowQ g rs a b = (p, 0) ∧ belowQ g (rs ++ [r]) a b = (q, 0) ∧ (p = true → q = true) := by
  obtain ⟨p, e1, k1⟩ := below_val h1 ha hb
  obtain ⟨q, e2, k2⟩ := below_val h2 ha hb
  exact ⟨p, q, e1, e2, fun hp => k2.2 (more_lies r (k1.1 hp))⟩
theorem more_type {g : List Ty} {rs : List Reveal} {r : Reveal} (h2 : openE g (rs ++ [r]) = 0) : ∃ t : Nat, r.type = t ∧ t < g.length := by
  obtain ⟨_, h400, h60, hr, hbad⟩ := opens h2
  have := rev_in (hbad rs.length (by simp))
  rw [nth_last] at this
  exact ⟨r.type.toNat, by omega, by omega⟩
theorem more_revealed {g : List Ty} {rs : List Reveal} {r : Reveal} (h2 : openE g (rs ++ [r]) = 0) {a t : Nat} (ha : a < g.length) (hk : (nth g a).kind = 13) (ho : (nth g a).opq = r.name) (hf : r.full = true) (ht : r.type = (t : Int)) (htl : t < g.length) :
    belowQ g (rs ++ [r]) a t = (true, 0) ∧ belowQ g (rs ++ [r]) t a = (true, 0) := by
  obtain ⟨l1, l2⟩ := revealed_lies (rs := rs) ha hk ho hf ht
  obtain ⟨p, e1, k1⟩ := below_val h2 ha htl
  obtain ⟨q, e2, k2⟩ := below_val h2 htl ha
  exact ⟨by rw [e1, k1.2 l1], by rw [e2, k2.2 l2]⟩
def InB (W : World) (g : List Ty) (rs : List Reveal) (e : Ending) (w' : World) : Prop := ∃ p, e = .returned (.tuple #[.pointer p, .int .i64 (openE g rs)]) ∧ Ext W w' ∧ (openE g rs = 0 → ∃ vb, p = some ⟨vb, 0, none⟩ ∧ EnvA w' vb g rs)
theorem inB {W : World} {g : List Ty} {rs : List Reveal} {v w : Value} (hg : Graph W v g) (hr : Reveals W w rs) : Calls Tryz.prog 24 #[v, w] W (InB W g rs) := by
  obtain ⟨a, c, rfl, _⟩ := id hg
  obtain ⟨b, d, rfl, _⟩ := id hr
  refine (inA _ _ _ g _ _ _ rs W hg hr).mono ?_
  rintro e w' ⟨hE, (⟨h0, vb, rfl, hA⟩ | ⟨h0, rfl⟩)⟩
  · exact ⟨_, by rw [h0], hE, fun _ => ⟨vb, rfl, hA⟩⟩
  · exact ⟨_, rfl, hE, fun h => absurd h h0⟩
def RevealC (x : Reveal) (cs : List Value) : Prop := cs = [.string x.name, .bool x.full, .int .i64 x.type] ∧ x.name.size ≤ maxBytes ∧ -9223372036854775808 ≤ x.type ∧ x.type ≤ 9223372036854775807
theorem reveal_cells : ∀ y cs, RevealC y cs → ∀ u, u ∈ cs → u.oneCell' = true := fun y cs h u hu => by
  obtain ⟨rfl, _⟩ := h
  simp only [List.mem_cons, List.not_mem_nil, or_false] at hu
  rcases hu with rfl | rfl | rfl <;> rfl
theorem one_reveal {W : World} {b : Nat} {r : Reveal} (h : W.heap[b]? = some (.cells #[.string r.name, .bool r.full, .int .i64 r.type] 43 (0, 0))) (hok : r.name.size ≤ maxBytes ∧ -9223372036854775808 ≤ r.type ∧ r.type ≤ 9223372036854775807) : SlW (fun _ => RevealC) 3 W (.slice (some ⟨b, 0, none⟩) 1 1) [r] :=
  ⟨_, 1, rfl, Nat.le_refl _, by show 1 * (8 * 3) ≤ maxBytes; decide, fun i x hx => by
    match i, hx with
    | 0, hx =>
      cases hx
      refine ⟨b, 0, _, rfl, ⟨rfl, hok⟩, rfl, fun j u hu => ?_⟩
      rw [show 0 + 0 * 3 + j = j by omega]
      exact row_cell h (by simpa using hu)⟩
def HasBox (w : World) (b : Nat) (r : Reveal) : Prop := w.heap[b]? = some (.cells #[.string r.name, .bool r.full, .int .i64 r.type] 43 (0, 0))
theorem HasBox.ext {w w' : World} {b : Nat} {r : Reveal} (h : HasBox w b r) (hE : Ext w w') : HasBox w' b r := (hE.block b (row_lt h)).trans h
section
variable {P : Program} {md : Region.Mode} {ops : Array Oper} {fin : Nat} {Q : Exit → Act → World → Prop} {S : World → Prop}
theorem tS {i : Nat} {oi : Oper} {v : Value} {fuel : Nat} {listed : Array Bool} {a : Act} {w : World} (hfin : finOk md ops fin = true) (hi : ops[i]? = some oi)
    (hs : Region.noSelect ops = true) (hf : Region.free md ops listed i = true) (hr : (Region.ready md ops listed).contains i = true)
    (hQ : ∀ c a w, Q (.panic c) (a.put oi.dst v) w → Q (.panic c) a w) (hy : YieldsIf P ops S oi v a) (hS : S w)
    (h : wpX P md ops fin Q S fuel (listed.setIfInBounds i true) (a.put oi.dst v) w) : wpX P md ops fin Q S (fuel + 1) listed a w :=
  wpX_first hfin hi (Region.noSelect_spec hs) hQ fuel listed a w (Region.free_spec hi hf) (by simpa using hr) hy hS h
end
theorem OwnL.alloc {α : Type} {R : α → List Value → Prop} {e : TypeId} {sz : Nat} {w : World} {base : Nat} {v : Value} {xs : List α} (h : OwnL R e sz w base v xs) (o : Obj) : OwnL R e sz (w.alloc o) base v xs := by
  obtain ⟨css, hl, hR, hsz, hown⟩ := h
  exact ⟨css, hl, hR, hsz, hown.alloc o⟩
theorem OwnL.ext {α : Type} {R : α → List Value → Prop} {e : TypeId} {sz : Nat} {w w' w0 : World} {v : Value} {xs : List α} (h : OwnL R e sz w w0.heap.size v xs) (hE : Ext w0 w) (hg : w.grownBy w' v.ownBlock) : Ext w0 w' :=
  hE.grown hg hE.size (fun q e => (h.lt q e).1)
set_option maxRecDepth 100000 in
set_option maxHeartbeats 4000000 in
theorem subMore4 (ga : Option Addr) (gn gc : Nat) (g : List Ty) (ra : Option Addr) (rn rc : Nat) (rs : List Reveal) (r : Reveal) (w : World) (hg : Graph w (.slice ga gn gc) g) (hre : Reveals w (.slice ra rn rc) rs) (hok : r.name.size ≤ maxBytes ∧ -9223372036854775808 ≤ r.type ∧ r.type ≤ 9223372036854775807) :
    Calls Tryz.prog 4 #[.slice ga gn gc, .slice ra rn rc, .agg #[.string r.name, .bool r.full, .int .i64 r.type]] w (Holds w) := by
  have HE := Lib.hid (Ext.alloc w (.cells #[.string r.name, .bool r.full, .int .i64 r.type] 43))
  have HB := Lib.hid (show HasBox (w.alloc (.cells #[.string r.name, .bool r.full, .int .i64 r.type] 43)) w.heap.size r from heap_alloc_new _ _)
  have Hg := Lib.hid hg
  have Hre := Lib.hid hre
  obtain rfl := SlW.len hg
  obtain rfl := SlW.len hre
  have hgb := (SlW.bound hg).2
  have Hok := Lib.hid hok
  have hnb := hok.1
  clear hg hre hok
  go_enter Tryz.func4, Tryz.ntmps4
  go_wp2_with fail
  refine (little13 _ _ _ g _ (Graph.mono HE.out Hg.out)).mono ?_
  rintro e w1 ⟨bl, rfl, hE, hl⟩
  have HE := Lib.hid (HE.out.trans hE)
  have HB := Lib.hid (HB.out.ext hE)
  have Hl := Lib.hid hl
  clear hE hl
  cases bl
  · go_wp2_with fail
    refine (ordered15 _).mono ?_
    rintro e wN ⟨rfl, hE⟩
    have HE := Lib.hid (HE.out.trans hE)
    clear hE
    go_wp2_with fail
    go_ret
    exact ⟨rfl, HE.out⟩
  go_wp2_with fail
  refine (few14 _ _ _ rs w1 (Reveals.mono HE.out Hre.out)).mono ?_
  rintro e w2 ⟨bf, rfl, hE, hf⟩
  have HE := Lib.hid (HE.out.trans hE)
  have HB := Lib.hid (HB.out.ext hE)
  have Hf := Lib.hid hf
  clear hE hf
  cases bf
  · go_wp2_with fail
    refine (ordered15 _).mono ?_
    rintro e wN ⟨rfl, hE⟩
    have HE := Lib.hid (HE.out.trans hE)
    clear hE
    go_wp2_with fail
    go_ret
    exact ⟨rfl, HE.out⟩
  have Hrl := Lib.hid (Hf.out rfl).2
  have Hrl := Lib.hid (Hf.out rfl).2
  have Hrl := Lib.hid (Hf.out rfl).2
  have c0 := row_cell HB.out (j := 0) rfl
  rcases Nat.lt_or_ge 40 r.name.size with h40 | h40
  · go_wp2_with fail
    refine (ordered15 _).mono ?_
    rintro e wN ⟨rfl, hE⟩
    have HE := Lib.hid (HE.out.trans hE)
    clear hE
    go_wp2_with fail
    go_ret
    exact ⟨rfl, HE.out⟩
  go_wp2_with fail
  refine (inB (Graph.mono HE.out Hg.out) (Reveals.mono HE.out Hre.out)).mono ?_
  rintro e w3 ⟨p1, rfl, hE, h1⟩
  have HB := Lib.hid (HB.out.ext hE)
  have HE := Lib.hid (HE.out.trans hE)
  have H1 := Lib.hid h1
  clear hE h1 c0
  have c0 := row_cell HB.out (j := 0) rfl
  have c1 := row_cell HB.out (j := 1) rfl
  have c2 := row_cell HB.out (j := 2) rfl
  go_upto_region 4 with (fail)
  go_cut [9, 10] (fun v9 v10 wx => ∃ p, v9 = .pointer p ∧ v10 = .int .i64 (openE g (rs ++ [r])) ∧ Hid (Ext w3 wx ∧ (openE g (rs ++ [r]) = 0 → ∃ vb, p = some ⟨vb, 0, none⟩ ∧ EnvA wx vb g (rs ++ [r]))))
  case first =>
    refine wp_region_E 99 (by kernel_rfl) ?_
    change wpE _ _ _ _ _ _ _ _ (World.drew _)
    refine tE (i := 0) (v := ?_) (fun w9 hE => ?_) ?_
    rotate_left
    · clear hE; first | (go_simp; done) | (go_simp; with_reducible rfl)
    simp only [Act.put, nm]
    refine tE (i := 2) (v := ?_) (fun w9 hE => ?_) ?_
    rotate_left
    · clear hE; first | (go_simp; done) | (go_simp; with_reducible rfl)
    simp only [Act.put, nm]
    refine tE (i := 4) (v := ?_) (fun w9 hE => ?_) ?_
    rotate_left
    · have c0E := hE.cell c0; have c1E := hE.cell c1; have c2E := hE.cell c2; clear hE; first | (go_simp; done) | (go_simp; with_reducible rfl)
    simp only [Act.put, nm]
    clear c0 c1 c2
    refine ⟨by kernel_rfl, ?_⟩
    obtain ⟨i0, hi, hz0, hz1, hz2⟩ := info_parts info43
    refine wpS_two (i := 1) (j := 5) rfl rfl (by kernel_rfl) (fun K hK => ?_) (fun K hK => ?_)
    · go_simp
      obtain ⟨W1, hW1⟩ : ∃ W1 : World, W1 = (w3.alloc (.cells #[] 43)).drew := ⟨_, rfl⟩
      rw [← hW1]
      have hE1 : Ext w3 W1 := by rw [hW1]; exact Below.drew (Ext.alloc _ _)
      have HS1 := Lib.hid (show W1.heap.size = w3.heap.size + 1 by rw [hW1]; exact World.size_alloc _ _)
      have hO1 : OwnL RevealC 43 3 W1 w3.heap.size (.slice (some ⟨w3.heap.size, 0, none⟩) 0 0) ([] : List Reveal) := by rw [hW1]; exact OwnL.made w3 #[] 0 (Nat.le_refl _) (by decide) rfl
      clear hW1
      refine hK _ _ (ext_of_drew hE1) ?_; clear hK K
      refine wpS_two (i := 3) (j := 5) rfl rfl (by kernel_rfl) (fun K hK => ?_) (fun K hK => ?_)
      · rw [if_pos (by kernel_rfl)]
        refine wp_append_list (.tmp 44) (.tmp 45) 24 rfl w3.heap.size 43 i0 (.agg #[.string ⟨#[]⟩, .bool false, .int .i64 0]) 3 32 Tryz.underlying24 hi hz0 hz1 hz2 rfl (by decide) _ _ rfl hO1 rfl (Reveals.mono (HE.out.trans hE1) Hre.out) reveal_cells (by have := Hrl.out; unfold maxLen; simp; omega) (by have := Hrl.out; simp; omega) hE1.size ?_
        intro v2 W2 hO2 hg2 _
        have hE2 := hO1.ext hE1 hg2
        rw [List.nil_append] at hO2
        refine hK _ _ (ext_of_drew hE2) ?_; clear hK K
        simp only [Act.put, nm]
        refine wpS_only (i := 5) rfl (by kernel_rfl) (fun K hK => ?_)
        go_simp
        have hO := hO2.alloc (.cells #[.string r.name, .bool r.full, .int .i64 r.type] 43)
        have hEC := hE2.trans (Ext.alloc W2 (.cells #[.string r.name, .bool r.full, .int .i64 r.type] 43))
        have hBX : HasBox (W2.alloc (.cells #[.string r.name, .bool r.full, .int .i64 r.type] 43)) W2.heap.size r := heap_alloc_new _ _
        refine hK _ _ (ext_of_drew hEC) ?_; clear hK K
        refine wpS_only (i := 6) rfl (by kernel_rfl) (fun K hK => ?_)
        rw [if_pos (by kernel_rfl)]
        refine wp_append_list (.tmp 46) (.tmp 48) 24 rfl w3.heap.size 43 i0 (.agg #[.string ⟨#[]⟩, .bool false, .int .i64 0]) 3 32 Tryz.underlying24 hi hz0 hz1 hz2 rfl (by decide) _ _ rfl hO rfl (one_reveal hBX Hok.out) reveal_cells (by have := Hrl.out; unfold maxLen; simp; omega) (by have := Hrl.out; simp; omega) hEC.size ?_
        intro v9 W9 hO9 hg9 _
        have hE9 := hO.ext hEC hg9
        have hR9 : Reveals W9 v9 (rs ++ [r]) := hO9.slw (by have := Hrl.out; unfold maxBytes; simp; omega)
        refine hK _ _ (ext_of_drew hE9) ?_; clear hK K
        simp only [Act.put, nm]
        refine wpS_only (i := 7) rfl (by kernel_rfl) (fun K hK => ?_)
        go_simp
        refine (inB (Graph.mono (HE.out.trans hE9) Hg.out) hR9).mono ?_
        rintro e W10 ⟨p, rfl, hE, h2⟩
        refine hK _ _ (ext_of_drew (hE9.trans hE)) ?_; clear hK K
        refine tS (i := 8) (v := ?_) (by kernel_rfl) rfl (by kernel_rfl) (by kernel_rfl) (by kernel_rfl) (fun _ _ _ h => h) (Or.inl ⟨by kernel_rfl, fun w9 _ => ?_⟩) (ext_of_drew (hE9.trans hE)) ?_
        rotate_left
        · first | (go_simp; done) | (go_simp; with_reducible rfl)
        simp only [Act.put, nm]
        refine tS (i := 9) (v := ?_) (by kernel_rfl) rfl (by kernel_rfl) (by kernel_rfl) (by kernel_rfl) (fun _ _ _ h => h) (Or.inl ⟨by kernel_rfl, fun w9 _ => ?_⟩) (ext_of_drew (hE9.trans hE)) ?_
        rotate_left
        · first | (go_simp; done) | (go_simp; with_reducible rfl)
        simp only [Act.put, nm]
        refine tS (i := 10) (v := ?_) (by kernel_rfl) rfl (by kernel_rfl) (by kernel_rfl) (by kernel_rfl) (fun _ _ _ h => h) (Or.inl ⟨by kernel_rfl, fun w9 _ => ?_⟩) (ext_of_drew (hE9.trans hE)) ?_
        rotate_left
        · first | (go_simp; done) | (go_simp; with_reducible rfl)
        simp only [Act.put, nm]
        refine tS (i := 11) (v := ?_) (by kernel_rfl) rfl (by kernel_rfl) (by kernel_rfl) (by kernel_rfl) (fun _ _ _ h => h) (Or.inl ⟨by kernel_rfl, fun w9 _ => ?_⟩) (ext_of_drew (hE9.trans hE)) ?_
        rotate_left
        · first | (go_simp; done) | (go_simp; with_reducible rfl)
        simp only [Act.put, nm]
        refine tS (i := 12) (v := ?_) (by kernel_rfl) rfl (by kernel_rfl) (by kernel_rfl) (by kernel_rfl) (fun _ _ _ h => h) (Or.inl ⟨by kernel_rfl, fun w9 _ => ?_⟩) (ext_of_drew (hE9.trans hE)) ?_
        rotate_left
        · first | (go_simp; done) | (go_simp; with_reducible rfl)
        simp only [Act.put, nm]
        refine wpS_done (by kernel_rfl) ?_
        go_wp2_with fail
        go_meet
        exact ⟨p, rfl, rfl, Lib.hid ⟨hE9.trans hE, h2⟩⟩
      · go_simp
        have hO1 := hO1.alloc (.cells #[.string r.name, .bool r.full, .int .i64 r.type] 43)
        have hBX1 : HasBox (W1.alloc (.cells #[.string r.name, .bool r.full, .int .i64 r.type] 43)) W1.heap.size r := heap_alloc_new _ _
        have hE1 := hE1.trans (Ext.alloc W1 (.cells #[.string r.name, .bool r.full, .int .i64 r.type] 43))
        refine hK _ _ (ext_of_drew hE1) ?_; clear hK K
        refine wpS_only (i := 3) rfl (by kernel_rfl) (fun K hK => ?_)
        rw [if_pos (by kernel_rfl)]
        refine wp_append_list (.tmp 44) (.tmp 45) 24 rfl w3.heap.size 43 i0 (.agg #[.string ⟨#[]⟩, .bool false, .int .i64 0]) 3 32 Tryz.underlying24 hi hz0 hz1 hz2 rfl (by decide) _ _ rfl hO1 rfl (Reveals.mono (HE.out.trans hE1) Hre.out) reveal_cells (by have := Hrl.out; unfold maxLen; simp; omega) (by have := Hrl.out; simp; omega) hE1.size ?_
        intro v2 W2 hO2 hg2 _
        have hE2 := hO1.ext hE1 hg2
        rw [List.nil_append] at hO2
        refine hK _ _ (ext_of_drew hE2) ?_; clear hK K
        simp only [Act.put, nm]
        have hO := hO2
        have hEC := hE2
        have hBX : HasBox W2 W1.heap.size r := (hg2.block _ (row_lt hBX1) (fun e => by have e := Option.some.inj e; have := HS1.out; simp only at e; omega)).trans hBX1
        refine wpS_only (i := 6) rfl (by kernel_rfl) (fun K hK => ?_)
        rw [if_pos (by kernel_rfl)]
        refine wp_append_list (.tmp 46) (.tmp 48) 24 rfl w3.heap.size 43 i0 (.agg #[.string ⟨#[]⟩, .bool false, .int .i64 0]) 3 32 Tryz.underlying24 hi hz0 hz1 hz2 rfl (by decide) _ _ rfl hO rfl (one_reveal hBX Hok.out) reveal_cells (by have := Hrl.out; unfold maxLen; simp; omega) (by have := Hrl.out; simp; omega) hEC.size ?_
        intro v9 W9 hO9 hg9 _
        have hE9 := hO.ext hEC hg9
        have hR9 : Reveals W9 v9 (rs ++ [r]) := hO9.slw (by have := Hrl.out; unfold maxBytes; simp; omega)
        refine hK _ _ (ext_of_drew hE9) ?_; clear hK K
        simp only [Act.put, nm]
        refine wpS_only (i := 7) rfl (by kernel_rfl) (fun K hK => ?_)
        go_simp
        refine (inB (Graph.mono (HE.out.trans hE9) Hg.out) hR9).mono ?_
        rintro e W10 ⟨p, rfl, hE, h2⟩
        refine hK _ _ (ext_of_drew (hE9.trans hE)) ?_; clear hK K
        refine tS (i := 8) (v := ?_) (by kernel_rfl) rfl (by kernel_rfl) (by kernel_rfl) (by kernel_rfl) (fun _ _ _ h => h) (Or.inl ⟨by kernel_rfl, fun w9 _ => ?_⟩) (ext_of_drew (hE9.trans hE)) ?_
        rotate_left
        · first | (go_simp; done) | (go_simp; with_reducible rfl)
        simp only [Act.put, nm]
        refine tS (i := 9) (v := ?_) (by kernel_rfl) rfl (by kernel_rfl) (by kernel_rfl) (by kernel_rfl) (fun _ _ _ h => h) (Or.inl ⟨by kernel_rfl, fun w9 _ => ?_⟩) (ext_of_drew (hE9.trans hE)) ?_
        rotate_left
        · first | (go_simp; done) | (go_simp; with_reducible rfl)
        simp only [Act.put, nm]
        refine tS (i := 10) (v := ?_) (by kernel_rfl) rfl (by kernel_rfl) (by kernel_rfl) (by kernel_rfl) (fun _ _ _ h => h) (Or.inl ⟨by kernel_rfl, fun w9 _ => ?_⟩) (ext_of_drew (hE9.trans hE)) ?_
        rotate_left
        · first | (go_simp; done) | (go_simp; with_reducible rfl)
        simp only [Act.put, nm]
        refine tS (i := 11) (v := ?_) (by kernel_rfl) rfl (by kernel_rfl) (by kernel_rfl) (by kernel_rfl) (fun _ _ _ h => h) (Or.inl ⟨by kernel_rfl, fun w9 _ => ?_⟩) (ext_of_drew (hE9.trans hE)) ?_
        rotate_left
        · first | (go_simp; done) | (go_simp; with_reducible rfl)
        simp only [Act.put, nm]
        refine tS (i := 12) (v := ?_) (by kernel_rfl) rfl (by kernel_rfl) (by kernel_rfl) (by kernel_rfl) (fun _ _ _ h => h) (Or.inl ⟨by kernel_rfl, fun w9 _ => ?_⟩) (ext_of_drew (hE9.trans hE)) ?_
        rotate_left
        · first | (go_simp; done) | (go_simp; with_reducible rfl)
        simp only [Act.put, nm]
        refine wpS_done (by kernel_rfl) ?_
        go_wp2_with fail
        go_meet
        exact ⟨p, rfl, rfl, Lib.hid ⟨hE9.trans hE, h2⟩⟩
    · go_simp
      obtain ⟨W0, hW0⟩ : ∃ W0 : World, W0 = (w3.alloc (.cells #[.string r.name, .bool r.full, .int .i64 r.type] 43)).drew := ⟨_, rfl⟩
      rw [← hW0]
      have hE0 : Ext w3 W0 := by rw [hW0]; exact Below.drew (Ext.alloc _ _)
      have hB0 : HasBox W0 w3.heap.size r := by rw [hW0]; exact heap_alloc_new w3 _
      have HS0 := Lib.hid (show W0.heap.size = w3.heap.size + 1 by rw [hW0]; exact World.size_alloc _ _)
      clear hW0
      refine hK _ _ (ext_of_drew hE0) ?_; clear hK K
      refine wpS_only (i := 1) rfl (by kernel_rfl) (fun K hK => ?_)
      go_simp
      have hE1 := hE0.trans (Ext.alloc W0 (.cells #[] 43))
      have hO1 : OwnL RevealC 43 3 (W0.alloc (.cells #[] 43)) w3.heap.size (.slice (some ⟨W0.heap.size, 0, none⟩) 0 0) ([] : List Reveal) := OwnL.made W0 #[] 0 hE0.size (by decide) rfl
      have hB1 := hB0.ext (Ext.alloc W0 (.cells #[] 43))
      refine hK _ _ (ext_of_drew hE1) ?_; clear hK K
      refine wpS_only (i := 3) rfl (by kernel_rfl) (fun K hK => ?_)
      rw [if_pos (by kernel_rfl)]
      refine wp_append_list (.tmp 44) (.tmp 45) 24 rfl w3.heap.size 43 i0 (.agg #[.string ⟨#[]⟩, .bool false, .int .i64 0]) 3 32 Tryz.underlying24 hi hz0 hz1 hz2 rfl (by decide) _ _ rfl hO1 rfl (Reveals.mono (HE.out.trans hE1) Hre.out) reveal_cells (by have := Hrl.out; unfold maxLen; simp; omega) (by have := Hrl.out; simp; omega) hE1.size ?_
      intro v2 W2 hO2 hg2 _
      have hE2 := hO1.ext hE1 hg2
      rw [List.nil_append] at hO2
      refine hK _ _ (ext_of_drew hE2) ?_; clear hK K
      simp only [Act.put, nm]
      have hO := hO2
      have hEC := hE2
      have hBX : HasBox W2 w3.heap.size r := (hg2.block _ (row_lt hB1) (fun e => by have e := Option.some.inj e; have := HS0.out; simp only at e; omega)).trans hB1
      refine wpS_only (i := 6) rfl (by kernel_rfl) (fun K hK => ?_)
      rw [if_pos (by kernel_rfl)]
      refine wp_append_list (.tmp 46) (.tmp 48) 24 rfl w3.heap.size 43 i0 (.agg #[.string ⟨#[]⟩, .bool false, .int .i64 0]) 3 32 Tryz.underlying24 hi hz0 hz1 hz2 rfl (by decide) _ _ rfl hO rfl (one_reveal hBX Hok.out) reveal_cells (by have := Hrl.out; unfold maxLen; simp; omega) (by have := Hrl.out; simp; omega) hEC.size ?_
      intro v9 W9 hO9 hg9 _
      have hE9 := hO.ext hEC hg9
      have hR9 : Reveals W9 v9 (rs ++ [r]) := hO9.slw (by have := Hrl.out; unfold maxBytes; simp; omega)
      refine hK _ _ (ext_of_drew hE9) ?_; clear hK K
      simp only [Act.put, nm]
      refine wpS_only (i := 7) rfl (by kernel_rfl) (fun K hK => ?_)
      go_simp
      refine (inB (Graph.mono (HE.out.trans hE9) Hg.out) hR9).mono ?_
      rintro e W10 ⟨p, rfl, hE, h2⟩
      refine hK _ _ (ext_of_drew (hE9.trans hE)) ?_; clear hK K
      refine tS (i := 8) (v := ?_) (by kernel_rfl) rfl (by kernel_rfl) (by kernel_rfl) (by kernel_rfl) (fun _ _ _ h => h) (Or.inl ⟨by kernel_rfl, fun w9 _ => ?_⟩) (ext_of_drew (hE9.trans hE)) ?_
      rotate_left
      · first | (go_simp; done) | (go_simp; with_reducible rfl)
      simp only [Act.put, nm]
      refine tS (i := 9) (v := ?_) (by kernel_rfl) rfl (by kernel_rfl) (by kernel_rfl) (by kernel_rfl) (fun _ _ _ h => h) (Or.inl ⟨by kernel_rfl, fun w9 _ => ?_⟩) (ext_of_drew (hE9.trans hE)) ?_
      rotate_left
      · first | (go_simp; done) | (go_simp; with_reducible rfl)
      simp only [Act.put, nm]
      refine tS (i := 10) (v := ?_) (by kernel_rfl) rfl (by kernel_rfl) (by kernel_rfl) (by kernel_rfl) (fun _ _ _ h => h) (Or.inl ⟨by kernel_rfl, fun w9 _ => ?_⟩) (ext_of_drew (hE9.trans hE)) ?_
      rotate_left
      · first | (go_simp; done) | (go_simp; with_reducible rfl)
      simp only [Act.put, nm]
      refine tS (i := 11) (v := ?_) (by kernel_rfl) rfl (by kernel_rfl) (by kernel_rfl) (by kernel_rfl) (fun _ _ _ h => h) (Or.inl ⟨by kernel_rfl, fun w9 _ => ?_⟩) (ext_of_drew (hE9.trans hE)) ?_
      rotate_left
      · first | (go_simp; done) | (go_simp; with_reducible rfl)
      simp only [Act.put, nm]
      refine tS (i := 12) (v := ?_) (by kernel_rfl) rfl (by kernel_rfl) (by kernel_rfl) (by kernel_rfl) (fun _ _ _ h => h) (Or.inl ⟨by kernel_rfl, fun w9 _ => ?_⟩) (ext_of_drew (hE9.trans hE)) ?_
      rotate_left
      · first | (go_simp; done) | (go_simp; with_reducible rfl)
      simp only [Act.put, nm]
      refine wpS_done (by kernel_rfl) ?_
      go_wp2_with fail
      go_meet
      exact ⟨p, rfl, rfl, Lib.hid ⟨hE9.trans hE, h2⟩⟩
  case rest =>
    obtain ⟨p2, rfl, rfl, hH⟩ := hcut
    have H2 := Lib.hid hH.out.2
    have HB := Lib.hid (HB.out.ext hH.out.1)
    have HE3 := Lib.hid hH.out.1
    have HE := Lib.hid (HE.out.trans hH.out.1)
    clear hH c0 c1 c2
    by_cases h1 : openE g rs = 0
    rotate_left
    · have hne : ((openE g rs : Int) != 0) = true := by simpa using h1
      clear h1
      go_wp2_with fail
      refine (ordered15 _).mono ?_
      rintro e wN ⟨rfl, hE⟩
      have HE := Lib.hid (HE.out.trans hE)
      clear hE
      go_wp2_with fail
      go_ret
      exact ⟨rfl, HE.out⟩
    by_cases h2 : openE g (rs ++ [r]) = 0
    rotate_left
    · have hne : ((openE g (rs ++ [r]) : Int) != 0) = true := by simpa using h2
      rw [h1]
      clear h1 h2
      go_wp2_with fail
      refine (ordered15 _).mono ?_
      rintro e wN ⟨rfl, hE⟩
      have HE := Lib.hid (HE.out.trans hE)
      clear hE
      go_wp2_with fail
      go_ret
      exact ⟨rfl, HE.out⟩
    obtain ⟨v1, rfl, hA1⟩ := H1.out h1
    obtain ⟨v2, rfl, hA2⟩ := H2.out h2
    have HA1 := Lib.hid (hA1.mono HE3.out)
    have HA2 := Lib.hid hA2
    have O1 := Lib.hid h1
    have O2 := Lib.hid h2
    have h400 := (opens h1).2.1
    rw [h1, h2]
    clear hA1 hA2 H1 H2 h1 h2 HE3
    go_wp2_with fail
    go_loopw [11] (fun i wr => ∃ k : Nat, k ≤ g.length ∧ i = .int .i64 k ∧ Hid (Ext w wr ∧ EnvA wr v1 g rs ∧ EnvA wr v2 g (rs ++ [r]) ∧ HasBox wr w.heap.size r)) (fun i _ => g.length - (intOf i).toNat)
    case atStart => exact ⟨0, Nat.zero_le _, rfl, Lib.hid ⟨HE.out, HA1.out, HA2.out, HB.out⟩⟩
    case round =>
      clear HE HA1 HA2 HB
      obtain ⟨k, hk, rfl, hH⟩ := hrel
      have HE := Lib.hid hH.out.1
      have HA1 := Lib.hid hH.out.2.1
      have HA2 := Lib.hid hH.out.2.2.1
      have HB := Lib.hid hH.out.2.2.2
      clear hH
      by_cases hlt : k < g.length
      rotate_left
      · go_wp2_with fail
        refine (ordered15 _).mono ?_
        rintro e wN ⟨rfl, hE⟩
        have HE := Lib.hid (HE.out.trans hE)
        clear hE
        go_wp2_with fail
        go_ret
        exact ⟨rfl, HE.out⟩
      go_wp2_with fail
      go_loopw [12] (fun i wr => ∃ m : Nat, m ≤ g.length ∧ i = .int .i64 m ∧ Hid (Ext w wr ∧ EnvA wr v1 g rs ∧ EnvA wr v2 g (rs ++ [r]) ∧ HasBox wr w.heap.size r)) (fun i _ => g.length - (intOf i).toNat)
      case atStart => exact ⟨0, Nat.zero_le _, rfl, Lib.hid ⟨HE.out, HA1.out, HA2.out, HB.out⟩⟩
      case round =>
        clear HE HA1 HA2 HB
        obtain ⟨m, hm, rfl, hH⟩ := hrel
        have HE := Lib.hid hH.out.1
        have HA1 := Lib.hid hH.out.2.1
        have HA2 := Lib.hid hH.out.2.2.1
        have HB := Lib.hid hH.out.2.2.2
        clear hH
        by_cases hml : m < g.length
        · obtain ⟨p, q, hp, hq, hpq⟩ := more_below (r := r) O1.out O2.out hlt hml
          have Hp := Lib.hid hp
          have Hq := Lib.hid hq
          clear hp hq
          go_wp2_with fail
          refine (belowV HA1.out k m (i64_nat hlt h400) (i64_nat hml h400) _ _ Hp.out).mono ?_
          rintro e w8 ⟨rfl, hE⟩
          have HE := Lib.hid (HE.out.trans hE)
          have HA1 := Lib.hid (HA1.out.mono hE)
          have HA2 := Lib.hid (HA2.out.mono hE)
          have HB := Lib.hid (HB.out.ext hE)
          clear hE
          go_wp2_with fail
          refine (belowV HA2.out k m (i64_nat hlt h400) (i64_nat hml h400) _ _ Hq.out).mono ?_
          rintro e w9 ⟨rfl, hE⟩
          have HE := Lib.hid (HE.out.trans hE)
          have HA1 := Lib.hid (HA1.out.mono hE)
          have HA2 := Lib.hid (HA2.out.mono hE)
          have HB := Lib.hid (HB.out.ext hE)
          clear hE Hp Hq
          cases p <;> cases q
          all_goals try (exact absurd (hpq rfl) (by decide))
          all_goals
            clear hpq
            go_wp2_with fail
            go_roundw
            case rel => exact ⟨m + 1, by omega, by go_num, Lib.hid ⟨HE.out, HA1.out, HA2.out, HB.out⟩⟩
            case measure => simp [intOf]; omega
        · obtain ⟨tb, tof, pa, pl, pc, ma, ml, mc, oa, ol, oc, hsl, hlt2, hT⟩ := Graph.at (Graph.mono HE.out Hg.out) hlt
          have t0 := hT.c0
          have t5 := hT.c5
          have c0 := row_cell HB.out (j := 0) rfl
          have c1 := row_cell HB.out (j := 1) rfl
          have c2 := row_cell HB.out (j := 2) rfl
          cases hsl
          clear hT
          by_cases hk13 : (nth g k).kind = 13
          rotate_left
          · have hkb := beq_eq_false_iff_ne.2 hk13
            clear hk13
            go_upto_region 17 with (fail)
            refine wp_region_E 99 (by kernel_rfl) ?_
            change wpE _ _ _ _ _ _ _ _ (World.drew _)
            refine tE (i := 0) (v := ?_) (fun w9 hE => ?_) ?_
            rotate_left
            · clear hE; first | (go_simp; done) | (go_simp; with_reducible rfl)
            simp only [Act.put, nm]
            refine tE (i := 1) (v := ?_) (fun w9 hE => ?_) ?_
            rotate_left
            · clear hE; first | (go_simp; done) | (go_simp; with_reducible rfl)
            simp only [Act.put, nm]
            refine tE (i := 2) (v := ?_) (fun w9 hE => ?_) ?_
            rotate_left
            · clear hE; first | (go_simp; done) | (go_simp; with_reducible rfl)
            simp only [Act.put, nm]
            refine tE (i := 3) (v := ?_) (fun w9 hE => ?_) ?_
            rotate_left
            · clear hE; first | (go_simp; done) | (go_simp; with_reducible rfl)
            simp only [Act.put, nm]
            refine tE (i := 4) (v := ?_) (fun w9 hE => ?_) ?_
            rotate_left
            · have t0E := hE.cell t0; clear hE; first | (go_simp; done) | (go_simp; with_reducible rfl)
            simp only [Act.put, nm]
            refine tE (i := 5) (v := ?_) (fun w9 hE => ?_) ?_
            rotate_left
            · clear hE; first | (go_simp; done) | (go_simp; with_reducible rfl)
            simp only [Act.put, nm]
            refine tE (i := 6) (v := ?_) (fun w9 hE => ?_) ?_
            rotate_left
            · clear hE; first | (go_simp; done) | (go_simp; with_reducible rfl)
            simp only [Act.put, nm]
            refine wpE_take (i := 7) (v := undef) rfl (by kernel_rfl) (by kernel_rfl) (by kernel_rfl) (fun _ _ _ h => h) (Or.inr ⟨by kernel_rfl, rfl⟩) ?_
            simp only [Act.put, nm]
            refine wpE_take (i := 8) (v := undef) rfl (by kernel_rfl) (by kernel_rfl) (by kernel_rfl) (fun _ _ _ h => h) (Or.inr ⟨by kernel_rfl, rfl⟩) ?_
            simp only [Act.put, nm]
            refine wpE_take (i := 9) (v := undef) rfl (by kernel_rfl) (by kernel_rfl) (by kernel_rfl) (fun _ _ _ h => h) (Or.inr ⟨by kernel_rfl, rfl⟩) ?_
            simp only [Act.put, nm]
            refine wpE_take (i := 10) (v := undef) rfl (by kernel_rfl) (by kernel_rfl) (by kernel_rfl) (fun _ _ _ h => h) (Or.inr ⟨by kernel_rfl, rfl⟩) ?_
            simp only [Act.put, nm]
            refine wpE_take (i := 11) (v := undef) rfl (by kernel_rfl) (by kernel_rfl) (by kernel_rfl) (fun _ _ _ h => h) (Or.inr ⟨by kernel_rfl, rfl⟩) ?_
            simp only [Act.put, nm]
            refine wpE_take (i := 12) (v := undef) rfl (by kernel_rfl) (by kernel_rfl) (by kernel_rfl) (fun _ _ _ h => h) (Or.inr ⟨by kernel_rfl, rfl⟩) ?_
            simp only [Act.put, nm]
            refine wpE_take (i := 13) (v := undef) rfl (by kernel_rfl) (by kernel_rfl) (by kernel_rfl) (fun _ _ _ h => h) (Or.inr ⟨by kernel_rfl, rfl⟩) ?_
            simp only [Act.put, nm]
            refine wpE_take (i := 14) (v := undef) rfl (by kernel_rfl) (by kernel_rfl) (by kernel_rfl) (fun _ _ _ h => h) (Or.inr ⟨by kernel_rfl, rfl⟩) ?_
            simp only [Act.put, nm]
            refine tE (i := 15) (v := ?_) (fun w9 hE => ?_) ?_
            rotate_left
            · clear hE; first | (go_simp; done) | (go_simp; with_reducible rfl)
            simp only [Act.put, nm]
            refine tE (i := 16) (v := ?_) (fun w9 hE => ?_) ?_
            rotate_left
            · clear hE; first | (go_simp; done) | (go_simp; with_reducible rfl)
            simp only [Act.put, nm]
            refine wpE_take (i := 17) (v := undef) rfl (by kernel_rfl) (by kernel_rfl) (by kernel_rfl) (fun _ _ _ h => h) (Or.inr ⟨by kernel_rfl, rfl⟩) ?_
            simp only [Act.put, nm]
            refine wpE_take (i := 18) (v := undef) rfl (by kernel_rfl) (by kernel_rfl) (by kernel_rfl) (fun _ _ _ h => h) (Or.inr ⟨by kernel_rfl, rfl⟩) ?_
            simp only [Act.put, nm]
            refine tE (i := 19) (v := ?_) (fun w9 hE => ?_) ?_
            rotate_left
            · clear hE; first | (go_simp; done) | (go_simp; with_reducible rfl)
            simp only [Act.put, nm]
            have HE := Lib.hid (HE.out.trans (Ext.drew _))
            have HA1 := Lib.hid (HA1.out.mono (Ext.drew _))
            have HA2 := Lib.hid (HA2.out.mono (Ext.drew _))
            have HB := Lib.hid (HB.out.ext (Ext.drew _))
            refine wpE_done (by kernel_rfl) (by kernel_rfl) ?_
            go_wp2_with fail
            go_roundw
            case rel =>
              exact ⟨k + 1, by omega, by go_num, Lib.hid ⟨HE.out, HA1.out, HA2.out, HB.out⟩⟩
            case measure => simp [intOf]; omega
          rw [hk13] at t0
          by_cases ho : (nth g k).opq = r.name
          rotate_left
          · have hob := beq_eq_false_iff_ne.2 ho
            have hod : (ByteArray.toList (nth g k).opq == ByteArray.toList r.name) = false := (beq_toListBytes _ _).symm.trans hob
            go_upto_region 17 with (fail)
            refine wp_region_E 99 (by kernel_rfl) ?_
            change wpE _ _ _ _ _ _ _ _ (World.drew _)
            refine tE (i := 0) (v := ?_) (fun w9 hE => ?_) ?_
            rotate_left
            · clear hE; first | (go_simp; done) | (go_simp; with_reducible rfl)
            simp only [Act.put, nm]
            refine tE (i := 1) (v := ?_) (fun w9 hE => ?_) ?_
            rotate_left
            · clear hE; first | (go_simp; done) | (go_simp; with_reducible rfl)
            simp only [Act.put, nm]
            refine tE (i := 2) (v := ?_) (fun w9 hE => ?_) ?_
            rotate_left
            · clear hE; first | (go_simp; done) | (go_simp; with_reducible rfl)
            simp only [Act.put, nm]
            refine tE (i := 3) (v := ?_) (fun w9 hE => ?_) ?_
            rotate_left
            · clear hE; first | (go_simp; done) | (go_simp; with_reducible rfl)
            simp only [Act.put, nm]
            refine tE (i := 4) (v := ?_) (fun w9 hE => ?_) ?_
            rotate_left
            · have t0E := hE.cell t0; clear hE; first | (go_simp; done) | (go_simp; with_reducible rfl)
            simp only [Act.put, nm]
            refine tE (i := 5) (v := ?_) (fun w9 hE => ?_) ?_
            rotate_left
            · clear hE; first | (go_simp; done) | (go_simp; with_reducible rfl)
            simp only [Act.put, nm]
            refine tE (i := 6) (v := ?_) (fun w9 hE => ?_) ?_
            rotate_left
            · clear hE; first | (go_simp; done) | (go_simp; with_reducible rfl)
            simp only [Act.put, nm]
            refine tE (i := 7) (v := ?_) (fun w9 hE => ?_) ?_
            rotate_left
            · clear hE; first | (go_simp; done) | (go_simp; with_reducible rfl)
            simp only [Act.put, nm]
            refine tE (i := 8) (v := ?_) (fun w9 hE => ?_) ?_
            rotate_left
            · clear hE; first | (go_simp; done) | (go_simp; with_reducible rfl)
            simp only [Act.put, nm]
            refine tE (i := 9) (v := ?_) (fun w9 hE => ?_) ?_
            rotate_left
            · clear hE; first | (go_simp; done) | (go_simp; with_reducible rfl)
            simp only [Act.put, nm]
            refine tE (i := 10) (v := ?_) (fun w9 hE => ?_) ?_
            rotate_left
            · clear hE; first | (go_simp; done) | (go_simp; with_reducible rfl)
            simp only [Act.put, nm]
            refine tE (i := 11) (v := ?_) (fun w9 hE => ?_) ?_
            rotate_left
            · have t5E := hE.cell t5; clear hE; first | (go_simp; done) | (go_simp; with_reducible rfl)
            simp only [Act.put, nm]
            refine tE (i := 12) (v := ?_) (fun w9 hE => ?_) ?_
            rotate_left
            · clear hE; first | (go_simp; done) | (go_simp; with_reducible rfl)
            simp only [Act.put, nm]
            refine tE (i := 13) (v := ?_) (fun w9 hE => ?_) ?_
            rotate_left
            · have c0E := hE.cell c0; clear hE; first | (go_simp; done) | (go_simp; with_reducible rfl)
            simp only [Act.put, nm]
            refine tE (i := 14) (v := ?_) (fun w9 hE => ?_) ?_
            rotate_left
            · clear hE; first | (go_simp; done) | (go_simp; with_reducible rfl)
            simp only [Act.put, nm]
            refine tE (i := 15) (v := ?_) (fun w9 hE => ?_) ?_
            rotate_left
            · clear hE; first | (go_simp; done) | (go_simp; with_reducible rfl)
            simp only [Act.put, nm]
            refine tE (i := 16) (v := ?_) (fun w9 hE => ?_) ?_
            rotate_left
            · clear hE; first | (go_simp; done) | (go_simp; with_reducible rfl)
            simp only [Act.put, nm]
            refine wpE_take (i := 17) (v := undef) rfl (by kernel_rfl) (by kernel_rfl) (by kernel_rfl) (fun _ _ _ h => h) (Or.inr ⟨by kernel_rfl, rfl⟩) ?_
            simp only [Act.put, nm]
            refine wpE_take (i := 18) (v := undef) rfl (by kernel_rfl) (by kernel_rfl) (by kernel_rfl) (fun _ _ _ h => h) (Or.inr ⟨by kernel_rfl, rfl⟩) ?_
            simp only [Act.put, nm]
            refine tE (i := 19) (v := ?_) (fun w9 hE => ?_) ?_
            rotate_left
            · clear hE; first | (go_simp; done) | (go_simp; with_reducible rfl)
            simp only [Act.put, nm]
            have HE := Lib.hid (HE.out.trans (Ext.drew _))
            have HA1 := Lib.hid (HA1.out.mono (Ext.drew _))
            have HA2 := Lib.hid (HA2.out.mono (Ext.drew _))
            have HB := Lib.hid (HB.out.ext (Ext.drew _))
            refine wpE_done (by kernel_rfl) (by kernel_rfl) ?_
            go_wp2_with fail
            go_roundw
            case rel =>
              exact ⟨k + 1, by omega, by go_num, Lib.hid ⟨HE.out, HA1.out, HA2.out, HB.out⟩⟩
            case measure => simp [intOf]; omega
          rw [ho] at t5
          by_cases hft : r.full = true
          rotate_left
          · have hfl : r.full = false := by simpa using hft
            rw [hfl] at c1
            clear hft hfl
            go_upto_region 17 with (fail)
            refine wp_region_E 99 (by kernel_rfl) ?_
            change wpE _ _ _ _ _ _ _ _ (World.drew _)
            refine tE (i := 0) (v := ?_) (fun w9 hE => ?_) ?_
            rotate_left
            · clear hE; first | (go_simp; done) | (go_simp; with_reducible rfl)
            simp only [Act.put, nm]
            refine tE (i := 1) (v := ?_) (fun w9 hE => ?_) ?_
            rotate_left
            · clear hE; first | (go_simp; done) | (go_simp; with_reducible rfl)
            simp only [Act.put, nm]
            refine tE (i := 2) (v := ?_) (fun w9 hE => ?_) ?_
            rotate_left
            · clear hE; first | (go_simp; done) | (go_simp; with_reducible rfl)
            simp only [Act.put, nm]
            refine tE (i := 3) (v := ?_) (fun w9 hE => ?_) ?_
            rotate_left
            · clear hE; first | (go_simp; done) | (go_simp; with_reducible rfl)
            simp only [Act.put, nm]
            refine tE (i := 4) (v := ?_) (fun w9 hE => ?_) ?_
            rotate_left
            · have t0E := hE.cell t0; clear hE; first | (go_simp; done) | (go_simp; with_reducible rfl)
            simp only [Act.put, nm]
            refine tE (i := 5) (v := ?_) (fun w9 hE => ?_) ?_
            rotate_left
            · clear hE; first | (go_simp; done) | (go_simp; with_reducible rfl)
            simp only [Act.put, nm]
            refine tE (i := 6) (v := ?_) (fun w9 hE => ?_) ?_
            rotate_left
            · clear hE; first | (go_simp; done) | (go_simp; with_reducible rfl)
            simp only [Act.put, nm]
            refine tE (i := 7) (v := ?_) (fun w9 hE => ?_) ?_
            rotate_left
            · clear hE; first | (go_simp; done) | (go_simp; with_reducible rfl)
            simp only [Act.put, nm]
            refine tE (i := 8) (v := ?_) (fun w9 hE => ?_) ?_
            rotate_left
            · clear hE; first | (go_simp; done) | (go_simp; with_reducible rfl)
            simp only [Act.put, nm]
            refine tE (i := 9) (v := ?_) (fun w9 hE => ?_) ?_
            rotate_left
            · clear hE; first | (go_simp; done) | (go_simp; with_reducible rfl)
            simp only [Act.put, nm]
            refine tE (i := 10) (v := ?_) (fun w9 hE => ?_) ?_
            rotate_left
            · clear hE; first | (go_simp; done) | (go_simp; with_reducible rfl)
            simp only [Act.put, nm]
            refine tE (i := 11) (v := ?_) (fun w9 hE => ?_) ?_
            rotate_left
            · have t5E := hE.cell t5; clear hE; first | (go_simp; done) | (go_simp; with_reducible rfl)
            simp only [Act.put, nm]
            refine tE (i := 12) (v := ?_) (fun w9 hE => ?_) ?_
            rotate_left
            · clear hE; first | (go_simp; done) | (go_simp; with_reducible rfl)
            simp only [Act.put, nm]
            refine tE (i := 13) (v := ?_) (fun w9 hE => ?_) ?_
            rotate_left
            · have c0E := hE.cell c0; clear hE; first | (go_simp; done) | (go_simp; with_reducible rfl)
            simp only [Act.put, nm]
            refine tE (i := 14) (v := ?_) (fun w9 hE => ?_) ?_
            rotate_left
            · clear hE; first | (go_simp; done) | (go_simp; with_reducible rfl)
            simp only [Act.put, nm]
            refine tE (i := 15) (v := ?_) (fun w9 hE => ?_) ?_
            rotate_left
            · clear hE; first | (go_simp; done) | (go_simp; with_reducible rfl)
            simp only [Act.put, nm]
            refine tE (i := 16) (v := ?_) (fun w9 hE => ?_) ?_
            rotate_left
            · clear hE; first | (go_simp; done) | (go_simp; with_reducible rfl)
            simp only [Act.put, nm]
            refine tE (i := 17) (v := ?_) (fun w9 hE => ?_) ?_
            rotate_left
            · clear hE; first | (go_simp; done) | (go_simp; with_reducible rfl)
            simp only [Act.put, nm]
            refine tE (i := 18) (v := ?_) (fun w9 hE => ?_) ?_
            rotate_left
            · have c1E := hE.cell c1; clear hE; first | (go_simp; done) | (go_simp; with_reducible rfl)
            simp only [Act.put, nm]
            refine tE (i := 19) (v := ?_) (fun w9 hE => ?_) ?_
            rotate_left
            · clear hE; first | (go_simp; done) | (go_simp; with_reducible rfl)
            simp only [Act.put, nm]
            have HE := Lib.hid (HE.out.trans (Ext.drew _))
            have HA1 := Lib.hid (HA1.out.mono (Ext.drew _))
            have HA2 := Lib.hid (HA2.out.mono (Ext.drew _))
            have HB := Lib.hid (HB.out.ext (Ext.drew _))
            refine wpE_done (by kernel_rfl) (by kernel_rfl) ?_
            go_wp2_with fail
            go_roundw
            case rel =>
              exact ⟨k + 1, by omega, by go_num, Lib.hid ⟨HE.out, HA1.out, HA2.out, HB.out⟩⟩
            case measure => simp [intOf]; omega
          · have hfl := hft
            rw [hfl] at c1
            obtain ⟨t, ht, htl⟩ := more_type O2.out
            obtain ⟨q1, q2⟩ := more_revealed O2.out hlt hk13 ho hfl ht htl
            have Q1 := Lib.hid q1
            have Q2 := Lib.hid q2
            rw [ht] at c2
            clear ht hfl hft
            clear q1 q2
            go_upto_region 17 with (fail)
            refine wp_region_E 99 (by kernel_rfl) ?_
            change wpE _ _ _ _ _ _ _ _ (World.drew _)
            refine tE (i := 0) (v := ?_) (fun w9 hE => ?_) ?_
            rotate_left
            · clear hE; first | (go_simp; done) | (go_simp; with_reducible rfl)
            simp only [Act.put, nm]
            refine tE (i := 1) (v := ?_) (fun w9 hE => ?_) ?_
            rotate_left
            · clear hE; first | (go_simp; done) | (go_simp; with_reducible rfl)
            simp only [Act.put, nm]
            refine tE (i := 2) (v := ?_) (fun w9 hE => ?_) ?_
            rotate_left
            · clear hE; first | (go_simp; done) | (go_simp; with_reducible rfl)
            simp only [Act.put, nm]
            refine tE (i := 3) (v := ?_) (fun w9 hE => ?_) ?_
            rotate_left
            · clear hE; first | (go_simp; done) | (go_simp; with_reducible rfl)
            simp only [Act.put, nm]
            refine tE (i := 4) (v := ?_) (fun w9 hE => ?_) ?_
            rotate_left
            · have t0E := hE.cell t0; clear hE; first | (go_simp; done) | (go_simp; with_reducible rfl)
            simp only [Act.put, nm]
            refine tE (i := 5) (v := ?_) (fun w9 hE => ?_) ?_
            rotate_left
            · clear hE; first | (go_simp; done) | (go_simp; with_reducible rfl)
            simp only [Act.put, nm]
            refine tE (i := 6) (v := ?_) (fun w9 hE => ?_) ?_
            rotate_left
            · clear hE; first | (go_simp; done) | (go_simp; with_reducible rfl)
            simp only [Act.put, nm]
            refine tE (i := 7) (v := ?_) (fun w9 hE => ?_) ?_
            rotate_left
            · clear hE; first | (go_simp; done) | (go_simp; with_reducible rfl)
            simp only [Act.put, nm]
            refine tE (i := 8) (v := ?_) (fun w9 hE => ?_) ?_
            rotate_left
            · clear hE; first | (go_simp; done) | (go_simp; with_reducible rfl)
            simp only [Act.put, nm]
            refine tE (i := 9) (v := ?_) (fun w9 hE => ?_) ?_
            rotate_left
            · clear hE; first | (go_simp; done) | (go_simp; with_reducible rfl)
            simp only [Act.put, nm]
            refine tE (i := 10) (v := ?_) (fun w9 hE => ?_) ?_
            rotate_left
            · clear hE; first | (go_simp; done) | (go_simp; with_reducible rfl)
            simp only [Act.put, nm]
            refine tE (i := 11) (v := ?_) (fun w9 hE => ?_) ?_
            rotate_left
            · have t5E := hE.cell t5; clear hE; first | (go_simp; done) | (go_simp; with_reducible rfl)
            simp only [Act.put, nm]
            refine tE (i := 12) (v := ?_) (fun w9 hE => ?_) ?_
            rotate_left
            · clear hE; first | (go_simp; done) | (go_simp; with_reducible rfl)
            simp only [Act.put, nm]
            refine tE (i := 13) (v := ?_) (fun w9 hE => ?_) ?_
            rotate_left
            · have c0E := hE.cell c0; clear hE; first | (go_simp; done) | (go_simp; with_reducible rfl)
            simp only [Act.put, nm]
            refine tE (i := 14) (v := ?_) (fun w9 hE => ?_) ?_
            rotate_left
            · clear hE; first | (go_simp; done) | (go_simp; with_reducible rfl)
            simp only [Act.put, nm]
            refine tE (i := 15) (v := ?_) (fun w9 hE => ?_) ?_
            rotate_left
            · clear hE; first | (go_simp; done) | (go_simp; with_reducible rfl)
            simp only [Act.put, nm]
            refine tE (i := 16) (v := ?_) (fun w9 hE => ?_) ?_
            rotate_left
            · clear hE; first | (go_simp; done) | (go_simp; with_reducible rfl)
            simp only [Act.put, nm]
            refine tE (i := 17) (v := ?_) (fun w9 hE => ?_) ?_
            rotate_left
            · clear hE; first | (go_simp; done) | (go_simp; with_reducible rfl)
            simp only [Act.put, nm]
            refine tE (i := 18) (v := ?_) (fun w9 hE => ?_) ?_
            rotate_left
            · have c1E := hE.cell c1; clear hE; first | (go_simp; done) | (go_simp; with_reducible rfl)
            simp only [Act.put, nm]
            refine tE (i := 19) (v := ?_) (fun w9 hE => ?_) ?_
            rotate_left
            · clear hE; first | (go_simp; done) | (go_simp; with_reducible rfl)
            simp only [Act.put, nm]
            have HE := Lib.hid (HE.out.trans (Ext.drew _))
            have HA1 := Lib.hid (HA1.out.mono (Ext.drew _))
            have HA2 := Lib.hid (HA2.out.mono (Ext.drew _))
            have HB := Lib.hid (HB.out.ext (Ext.drew _))
            have c2 := (Ext.drew _).cell c2
            refine wpE_done (by kernel_rfl) (by kernel_rfl) ?_
            go_wp2_with fail
            refine (belowV HA2.out k t (i64_nat hlt h400) (i64_nat htl h400) _ _ Q1.out).mono ?_
            rintro e w8 ⟨rfl, hE⟩
            have HE := Lib.hid (HE.out.trans hE)
            have HA1 := Lib.hid (HA1.out.mono hE)
            have HA2 := Lib.hid (HA2.out.mono hE)
            have HB := Lib.hid (HB.out.ext hE)
            have c2 := hE.cell c2
            clear hE
            go_wp2_with fail
            refine (belowV HA2.out t k (i64_nat htl h400) (i64_nat hlt h400) _ _ Q2.out).mono ?_
            rintro e w9 ⟨rfl, hE⟩
            have HE := Lib.hid (HE.out.trans hE)
            have HA1 := Lib.hid (HA1.out.mono hE)
            have HA2 := Lib.hid (HA2.out.mono hE)
            have HB := Lib.hid (HB.out.ext hE)
            have c2 := hE.cell c2
            clear hE
            go_wp2_with fail
            go_roundw
            case rel => exact ⟨k + 1, by omega, by go_num, Lib.hid ⟨HE.out, HA1.out, HA2.out, HB.out⟩⟩
            case measure => simp [intOf]; omega
end Go.Proofs.YtjffkeoajkhbmaaGreat

namespace Go.Proofs.YtjffkeoajkhbmaaGreat
open Go.RowKit Go.Proofs
set_option linter.unusedSimpArgs false
section
variable {H : Type} {enc : TypeId × Value → H} {W : World}
def Fits (P : Program) (t : TypeId) (d : DataW H) : Prop := ∀ n, n ∈ d.weights P t → n ≤ reachBytes
theorem reach_max : reachBytes = maxBytes := by decide
theorem fits_each {P : Program} {ts : List TypeId} {ds : List (DataW H)} (h : ∀ n, n ∈ DataW.weightsEach P ts ds → n ≤ reachBytes) {j : Nat} {t : TypeId} {d : DataW H} (ht : ts[j]? = some t) (hd : ds[j]? = some d) : Fits P t d :=
  fun n hn => h n (DataW.weights_mem_each ht hd n hn)
theorem weights_all {P : Program} {e : TypeId} : ∀ {ds : List (DataW H)} {i : Nat} {d : DataW H}, ds[i]? = some d → ∀ n, n ∈ d.weights P e → n ∈ DataW.weightsAll P e ds
  | d0 :: ds, 0, d, hd, n, hn => by
    simp only [List.getElem?_cons_zero, Option.some.injEq] at hd
    subst hd
    simp only [DataW.weightsAll, List.mem_append]
    exact Or.inl hn
  | d0 :: ds, i + 1, d, hd, n, hn => by
    simp only [List.getElem?_cons_succ] at hd
    simp only [DataW.weightsAll, List.mem_append]
    exact Or.inr (weights_all hd n hn)
  | [], _, _, hd, _, _ => by simp at hd
theorem pick_list {α : Type} (n : Nat) (Q : Nat → α → Prop) (h : ∀ i, i < n → ∃ x, Q i x) : ∃ xs : List α, xs.length = n ∧ ∀ i x, xs[i]? = some x → Q i x := by
  induction n with
  | zero => exact ⟨[], rfl, fun i x hx => by simp at hx⟩
  | succ n ih =>
    obtain ⟨xs, hl, hx⟩ := ih (fun i hi => h i (by omega))
    obtain ⟨y, hy⟩ := h n (by omega)
    refine ⟨xs ++ [y], by simp [hl], fun i x hi => ?_⟩
    by_cases hin : i < n
    · rw [List.getElem?_append_left (by omega)] at hi
      exact hx i x hi
    · have hi2 := (List.getElem?_eq_some_iff.1 hi).1
      simp at hi2
      have : i = n := by omega
      subst this
      rw [List.getElem?_append_right (by omega), hl] at hi
      simp at hi
      rw [← hi]; exact hy
theorem open_slw {α : Type} (R : World → α → List Value → Prop) (sz : Nat) {t e : TypeId} {fuel : Nat} {cs : List Value} {x : DataW H × List MemPlace} (ht : Tryz.prog.underlying t = some (.slice e)) (hsz : Tryz.prog.cellsOf e = sz) (hpos : 0 < sz) (hby : 8 * sz ≤ Tryz.prog.bytesOf e)
    (hel : ∀ n cs y, DataW.trod enc Tryz.prog W 0 (fun _ => true) true n e cs = some y → Fits Tryz.prog e y.1 → ∃ x, R W x cs ∧ cs.length = sz)
    (h : DataW.trod enc Tryz.prog W 0 (fun _ => true) true fuel t cs = some x) (hf : Fits Tryz.prog t x.1) : ∃ v xs, cs = [v] ∧ SlW R sz W v xs := by
  rcases DataW.trod_slice ht h with ⟨rfl, rfl⟩ | ⟨a, len, cap, elems, rest, n, rfl, rfl, rfl, -, hlc, hcm, hlen, hall, -, -⟩
  · exact ⟨_, [], rfl, SlW.nil _ _ _⟩
  · subst hsz
    have hw : (elems.length + rest.length) * Tryz.prog.bytesOf e ≤ reachBytes := hf _ (by simp [DataW.weights, ht])
    have hfe : ∀ (i : Nat) (y : DataW H × List MemPlace), elems[i]? = some y → Fits Tryz.prog e y.1 := fun i y hy m hm => by
      refine hf m ?_
      simp only [DataW.weights, ht, List.mem_cons, List.mem_append]
      exact Or.inr (Or.inl (weights_all (i := i) (d := y.1) (by simp [hy]) m hm))
    have hspot : 0 < len → a.spot = none := fun h0 => by
      obtain ⟨y, hy⟩ : ∃ y, elems[0]? = some y := ⟨_, List.getElem?_eq_getElem (by omega)⟩
      have h1 := hall 0 h0
      rw [hy, Nat.zero_mul] at h1
      cases hc : W.cells? 0 (a.add 0) (Tryz.prog.cellsOf e) with
      | none => rw [hc] at h1; cases h1
      | some cs =>
        obtain ⟨-, hl0, hcell⟩ := World.cells?_some hc
        have hh := hcell 0 (by omega)
        rw [List.getElem?_eq_getElem (by omega)] at hh
        have h2 := World.cell?_spot hh
        simpa [Addr.add] using h2
    obtain ⟨xs, hxl, hxs⟩ := pick_list len (fun i x => ∃ b off cs, a = ⟨b, off, none⟩ ∧ R W x cs ∧ cs.length = Tryz.prog.cellsOf e ∧ ∀ j u, cs[j]? = some u → W.cell? ⟨b, off + i * Tryz.prog.cellsOf e + j, none⟩ = some u) (fun i hi => by
      obtain ⟨y, hy⟩ : ∃ y, elems[i]? = some y := ⟨_, List.getElem?_eq_getElem (by omega)⟩
      have h1 := hall i hi
      rw [hy] at h1
      cases hc : W.cells? 0 (a.add (i * Tryz.prog.cellsOf e)) (Tryz.prog.cellsOf e) with
      | none => rw [hc] at h1; cases h1
      | some cs =>
        rw [hc] at h1
        obtain ⟨x, hx, hl⟩ := hel n cs y h1 (hfe i y hy)
        obtain ⟨-, -, hcell⟩ := World.cells?_some hc
        obtain ⟨b, off, spot⟩ := a
        have hs : spot = none := hspot (by omega)
        subst hs
        refine ⟨x, b, off, cs, rfl, hx, hl, fun j u hj => ?_⟩
        have hjl : j < Tryz.prog.cellsOf e := by have := (List.getElem?_eq_some_iff.1 hj).1; omega
        have := hcell j hjl
        rw [hj] at this
        rw [Addr.add_lit, Addr.add_lit] at this
        exact this)
    refine ⟨_, xs, rfl, some a, cap, by rw [hxl], by omega, ?_, fun i x hx => ?_⟩
    · rw [← reach_max, hxl]
      refine Nat.le_trans ?_ hw
      exact Nat.mul_le_mul (by omega) hby
    · obtain ⟨b, off, cs, ha, h1, h2, h3⟩ := hxs i x hx
      exact ⟨b, off, cs, by rw [ha], h1, h2, h3⟩
theorem read_int {t : TypeId} {k : IntKind} (ht : Tryz.prog.underlying t = some (.int k)) {n : Nat} {cs : List Value} {y : DataW H × List MemPlace} (h : DataW.trod enc Tryz.prog W 0 (fun _ => true) true n t cs = some y) : ∃ x : Int, cs = [.int k x] ∧ (Lit.int k x).wf = true := by
  obtain ⟨x, h1, -, h3⟩ := DataW.trod_int ht h
  exact ⟨x, h1, h3⟩
set_option maxRecDepth 100000 in
theorem read_str {t : TypeId} (ht : Tryz.prog.underlying t = some .string) {n : Nat} {cs : List Value} {y : DataW H × List MemPlace} (h : DataW.trod enc Tryz.prog W 0 (fun _ => true) true n t cs = some y) (hf : Fits Tryz.prog t y.1) : ∃ s : BA, cs = [.string s] ∧ s.size ≤ maxBytes := by
  obtain ⟨s, h1, rfl, -⟩ := DataW.trod_string ht h
  refine ⟨s, h1, ?_⟩
  have := hf s.data.toList.length (by simp [DataW.weights])
  rw [← reach_max]
  simpa using this
theorem read_bool {t : TypeId} (ht : Tryz.prog.underlying t = some .bool) {n : Nat} {cs : List Value} {y : DataW H × List MemPlace} (h : DataW.trod enc Tryz.prog W 0 (fun _ => true) true n t cs = some y) : ∃ b : Bool, cs = [.bool b] := by
  obtain ⟨b, h1, -⟩ := DataW.trod_bool ht h
  exact ⟨b, h1⟩
set_option maxRecDepth 100000 in
theorem wf_i64 {x : Int} (h : (Lit.int .i64 x).wf = true) : -9223372036854775808 ≤ x ∧ x ≤ 9223372036854775807 := by
  simp [Lit.wf, IntKind.min, IntKind.max, IntKind.signed, IntKind.bits] at h
  omega
theorem wf_u8 {x : Int} (h : (Lit.int .u8 x).wf = true) : 0 ≤ x ∧ x ≤ 255 := by
  simp [Lit.wf, IntKind.min, IntKind.max, IntKind.signed, IntKind.bits] at h
  omega
theorem open_fields {t : TypeId} {fs : Array Field} (ht : Tryz.prog.underlying t = some (.struct fs)) {n : Nat} {cs : List Value} {y : DataW H × List MemPlace} (h : DataW.trod enc Tryz.prog W 0 (fun _ => true) true n t cs = some y) (hf : Fits Tryz.prog t y.1) :
    cs.length = Tryz.prog.cellsOf t ∧ ∀ (i : Nat) (ft : TypeId) (off : Nat), (fs[i]?).map (fun f => (f.type, f.offset)) = some (ft, off) → ∃ m z, DataW.trod enc Tryz.prog W 0 (fun _ => true) true m ft ((cs.drop off).take (Tryz.prog.cellsOf ft)) = some z ∧ Fits Tryz.prog ft z.1 := by
  obtain ⟨xs, m, rfl, rfl, hl, hxl, hall⟩ := DataW.trod_struct ht h
  refine ⟨hl, fun i ft off hfo => ?_⟩
  obtain ⟨f, hi, hfe⟩ := Option.map_eq_some_iff.1 hfo
  cases hfe
  have h1 := hall i f hi
  have hil : i < fs.size := (Array.getElem?_eq_some_iff.1 hi).1
  obtain ⟨z, hz⟩ : ∃ z, xs[i]? = some z := ⟨_, List.getElem?_eq_getElem (by omega)⟩
  rw [hz] at h1
  refine ⟨m, z, h1, fits_each (ts := fs.toList.map (·.type)) (ds := xs.map (·.1)) (fun q hq => hf q ?_) (j := i) (by simp [hi]) (by simp [hz])⟩
  simp only [DataW.weights, ht]
  exact hq
theorem c3 : Tryz.prog.cellsOf 3 = 1 := by kernel_rfl
theorem c4 : Tryz.prog.cellsOf 4 = 1 := by kernel_rfl
theorem c5 : Tryz.prog.cellsOf 5 = 1 := by kernel_rfl
theorem c9 : Tryz.prog.cellsOf 9 = 1 := by kernel_rfl
theorem c35 : Tryz.prog.cellsOf 35 = 1 := by kernel_rfl
theorem c84 : Tryz.prog.cellsOf 84 = 1 := by kernel_rfl
theorem c46 : Tryz.prog.cellsOf 46 = 1 := by kernel_rfl
theorem c47 : Tryz.prog.cellsOf 47 = 1 := by kernel_rfl
theorem c48 : Tryz.prog.cellsOf 48 = 1 := by kernel_rfl
theorem c83 : Tryz.prog.cellsOf 83 = 2 := by kernel_rfl
theorem c86 : Tryz.prog.cellsOf 86 = 3 := by kernel_rfl
theorem c88 : Tryz.prog.cellsOf 88 = 5 := by kernel_rfl
theorem c169 : Tryz.prog.cellsOf 169 = 2 := by kernel_rfl
theorem c43 : Tryz.prog.cellsOf 43 = 3 := by kernel_rfl
theorem c50 : Tryz.prog.cellsOf 50 = 10 := by kernel_rfl
theorem c93 : Tryz.prog.cellsOf 93 = 3 := by kernel_rfl
theorem open_ints35 {n : Nat} {cs : List Value} {y : DataW H × List MemPlace} (h : DataW.trod enc Tryz.prog W 0 (fun _ => true) true n 35 cs = some y) (hf : Fits Tryz.prog 35 y.1) : ∃ v xs, cs = [v] ∧ Ints W v xs :=
  open_slw IsInt 1 Tryz.underlying35 c3 (by decide) (of_decide_eq_true (by kernel_rfl)) (fun m cs y h _ => by
    obtain ⟨x, rfl, hw⟩ := read_int Tryz.underlying3 h
    exact ⟨x, ⟨rfl, wf_i64 hw⟩, rfl⟩) h hf
theorem open_strs84 {n : Nat} {cs : List Value} {y : DataW H × List MemPlace} (h : DataW.trod enc Tryz.prog W 0 (fun _ => true) true n 84 cs = some y) (hf : Fits Tryz.prog 84 y.1) : ∃ v xs, cs = [v] ∧ Strs W v xs :=
  open_slw IsStr 1 Tryz.underlying84 c9 (by decide) (of_decide_eq_true (by kernel_rfl)) (fun m cs y h hf => by
    obtain ⟨s, rfl, hs⟩ := read_str Tryz.underlying9 h hf
    exact ⟨s, ⟨rfl, hs⟩, rfl⟩) h hf
theorem take_one {cs : List Value} {v : Value} {k : Nat} (h : (cs.drop k).take 1 = [v]) : cs[k]? = some v := by
  have := congrArg (fun l => l[0]?) h
  simpa using this
theorem list_of {cs : List Value} : ∀ (vs : List Value), cs.length = vs.length → (∀ (i : Nat) (v : Value), vs[i]? = some v → cs[i]? = some v) → cs = vs := fun vs hl h => by
  apply List.ext_getElem? 
  intro i
  by_cases hi : i < vs.length
  · rw [h i _ (List.getElem?_eq_getElem hi), List.getElem?_eq_getElem hi]
  · rw [List.getElem?_eq_none (by omega), List.getElem?_eq_none (by omega)]
theorem open_part {n : Nat} {cs : List Value} {y : DataW H × List MemPlace} (h : DataW.trod enc Tryz.prog W 0 (fun _ => true) true n 83 cs = some y) (hf : Fits Tryz.prog 83 y.1) : ∃ x, IsPart W x cs ∧ cs.length = 2 := by
  obtain ⟨hl, hall⟩ := open_fields Tryz.underlying83 h hf
  rw [c83] at hl
  obtain ⟨m0, z0, h0, f0⟩ := hall 0 9 0 rfl
  obtain ⟨m1, z1, h1, f1⟩ := hall 1 3 1 rfl
  obtain ⟨s, e0, hs⟩ := read_str Tryz.underlying9 h0 f0
  obtain ⟨x, e1, hx⟩ := read_int Tryz.underlying3 h1
  rw [c9] at e0
  rw [c3] at e1
  have e0 := take_one e0
  have e1 := take_one e1
  refine ⟨⟨s, x⟩, ⟨list_of _ hl (fun i v hv => ?_), hs, wf_i64 hx⟩, hl⟩
  match i, hv with
  | 0, hv => cases hv; exact e0
  | 1, hv => cases hv; exact e1
theorem open_over {n : Nat} {cs : List Value} {y : DataW H × List MemPlace} (h : DataW.trod enc Tryz.prog W 0 (fun _ => true) true n 169 cs = some y) (hf : Fits Tryz.prog 169 y.1) : ∃ x, IsOver W x cs ∧ cs.length = 2 := by
  obtain ⟨hl, hall⟩ := open_fields Tryz.underlying169 h hf
  rw [c169] at hl
  obtain ⟨m0, z0, h0, f0⟩ := hall 0 9 0 rfl
  obtain ⟨m1, z1, h1, f1⟩ := hall 1 9 1 rfl
  obtain ⟨s, e0, hs⟩ := read_str Tryz.underlying9 h0 f0
  obtain ⟨x, e1, hx⟩ := read_str Tryz.underlying9 h1 f1
  rw [c9] at e0 e1
  have e0 := take_one e0
  have e1 := take_one e1
  refine ⟨⟨s, x⟩, ⟨list_of _ hl (fun i v hv => ?_), hs, hx⟩, hl⟩
  match i, hv with
  | 0, hv => cases hv; exact e0
  | 1, hv => cases hv; exact e1
theorem open_reveal {n : Nat} {cs : List Value} {y : DataW H × List MemPlace} (h : DataW.trod enc Tryz.prog W 0 (fun _ => true) true n 43 cs = some y) (hf : Fits Tryz.prog 43 y.1) : ∃ x, IsReveal W x cs ∧ cs.length = 3 := by
  obtain ⟨hl, hall⟩ := open_fields Tryz.underlying43 h hf
  rw [c43] at hl
  obtain ⟨m0, z0, h0, f0⟩ := hall 0 9 0 rfl
  obtain ⟨m1, z1, h1, f1⟩ := hall 1 4 1 rfl
  obtain ⟨m2, z2, h2, f2⟩ := hall 2 3 2 rfl
  obtain ⟨s, e0, hs⟩ := read_str Tryz.underlying9 h0 f0
  obtain ⟨b, e1⟩ := read_bool Tryz.underlying4 h1
  obtain ⟨x, e2, hx⟩ := read_int Tryz.underlying3 h2
  rw [c9] at e0
  rw [c4] at e1
  rw [c3] at e2
  have e0 := take_one e0
  have e1 := take_one e1
  have e2 := take_one e2
  refine ⟨⟨s, b, x⟩, ⟨list_of _ hl (fun i v hv => ?_), hs, wf_i64 hx⟩, hl⟩
  match i, hv with
  | 0, hv => cases hv; exact e0
  | 1, hv => cases hv; exact e1
  | 2, hv => cases hv; exact e2
theorem open_meth {n : Nat} {cs : List Value} {y : DataW H × List MemPlace} (h : DataW.trod enc Tryz.prog W 0 (fun _ => true) true n 88 cs = some y) (hf : Fits Tryz.prog 88 y.1) : ∃ x, IsMeth W x cs ∧ cs.length = 5 := by
  obtain ⟨hl, hall⟩ := open_fields Tryz.underlying88 h hf
  rw [c88] at hl
  obtain ⟨m0, z0, h0, f0⟩ := hall 0 9 0 rfl
  obtain ⟨m1, z1, h1, f1⟩ := hall 1 86 1 rfl
  obtain ⟨m2, z2, h2, f2⟩ := hall 2 9 4 rfl
  obtain ⟨s, e0, hs⟩ := read_str Tryz.underlying9 h0 f0
  obtain ⟨p, e4, hp⟩ := read_str Tryz.underlying9 h2 f2
  obtain ⟨-, hsig⟩ := open_fields Tryz.underlying86 h1 f1
  obtain ⟨n0, y0, g0, k0⟩ := hsig 0 35 0 rfl
  obtain ⟨n1, y1, g1, k1⟩ := hsig 1 3 1 rfl
  obtain ⟨n2, y2, g2, k2⟩ := hsig 2 84 2 rfl
  obtain ⟨av, args, e1, ha⟩ := open_ints35 g0 k0
  obtain ⟨res, e2, hr⟩ := read_int Tryz.underlying3 g1
  obtain ⟨rv, raises, e3, hra⟩ := open_strs84 g2 k2
  rw [c9] at e0 e4
  rw [c35, c86] at e1
  rw [c3, c86] at e2
  rw [c84, c86] at e3
  have e0 := take_one e0
  have e4 := take_one e4
  have e1 : cs[1]? = some av := by have := take_one e1; simpa using this
  have e2 : cs[2]? = some (.int .i64 res) := by have := take_one e2; simpa using this
  have e3 : cs[3]? = some rv := by have := take_one e3; simpa using this
  refine ⟨⟨s, ⟨args, res, raises⟩, p⟩, ⟨av, rv, list_of _ hl (fun i v hv => ?_), ha, hra, (wf_i64 hr).1, (wf_i64 hr).2, hs, hp⟩, hl⟩
  match i, hv with
  | 0, hv => cases hv; exact e0
  | 1, hv => cases hv; exact e1
  | 2, hv => cases hv; exact e2
  | 3, hv => cases hv; exact e3
  | 4, hv => cases hv; exact e4
theorem open_parts {n : Nat} {cs : List Value} {y : DataW H × List MemPlace} (h : DataW.trod enc Tryz.prog W 0 (fun _ => true) true n 46 cs = some y) (hf : Fits Tryz.prog 46 y.1) : ∃ v xs, cs = [v] ∧ Parts W v xs :=
  open_slw IsPart 2 Tryz.underlying46 c83 (by decide) (of_decide_eq_true (by kernel_rfl)) (fun m cs y h hf => open_part h hf) h hf
theorem open_meths {n : Nat} {cs : List Value} {y : DataW H × List MemPlace} (h : DataW.trod enc Tryz.prog W 0 (fun _ => true) true n 47 cs = some y) (hf : Fits Tryz.prog 47 y.1) : ∃ v xs, cs = [v] ∧ Meths W v xs :=
  open_slw IsMeth 5 Tryz.underlying47 c88 (by decide) (of_decide_eq_true (by kernel_rfl)) (fun m cs y h hf => open_meth h hf) h hf
theorem open_overs {n : Nat} {cs : List Value} {y : DataW H × List MemPlace} (h : DataW.trod enc Tryz.prog W 0 (fun _ => true) true n 48 cs = some y) (hf : Fits Tryz.prog 48 y.1) : ∃ v xs, cs = [v] ∧ Overs W v xs :=
  open_slw IsOver 2 Tryz.underlying48 c169 (by decide) (of_decide_eq_true (by kernel_rfl)) (fun m cs y h hf => open_over h hf) h hf
theorem open_ty {n : Nat} {cs : List Value} {y : DataW H × List MemPlace} (h : DataW.trod enc Tryz.prog W 0 (fun _ => true) true n 50 cs = some y) (hf : Fits Tryz.prog 50 y.1) : ∃ x, IsTy W x cs ∧ cs.length = 10 := by
  obtain ⟨hl, hall⟩ := open_fields Tryz.underlying50 h hf
  rw [c50] at hl
  obtain ⟨m0, z0, h0, f0⟩ := hall 0 5 0 rfl
  obtain ⟨m1, z1, h1, f1⟩ := hall 1 3 1 rfl
  obtain ⟨m2, z2, h2, f2⟩ := hall 2 3 2 rfl
  obtain ⟨m3, z3, h3, f3⟩ := hall 3 4 3 rfl
  obtain ⟨m4, z4, h4, f4⟩ := hall 4 9 4 rfl
  obtain ⟨m5, z5, h5, f5⟩ := hall 5 9 5 rfl
  obtain ⟨m6, z6, h6, f6⟩ := hall 6 3 6 rfl
  obtain ⟨m7, z7, h7, f7⟩ := hall 7 46 7 rfl
  obtain ⟨m8, z8, h8, f8⟩ := hall 8 47 8 rfl
  obtain ⟨m9, z9, h9, f9⟩ := hall 9 48 9 rfl
  obtain ⟨k, e0, w0⟩ := read_int Tryz.underlying5 h0
  obtain ⟨lo, e1, w1⟩ := read_int Tryz.underlying3 h1
  obtain ⟨hi, e2, w2⟩ := read_int Tryz.underlying3 h2
  obtain ⟨br, e3⟩ := read_bool Tryz.underlying4 h3
  obtain ⟨bd, e4, w4⟩ := read_str Tryz.underlying9 h4 f4
  obtain ⟨op, e5, w5⟩ := read_str Tryz.underlying9 h5 f5
  obtain ⟨su, e6, w6⟩ := read_int Tryz.underlying3 h6
  obtain ⟨pv, ps, e7, w7⟩ := open_parts h7 f7
  obtain ⟨mv, ms, e8, w8⟩ := open_meths h8 f8
  obtain ⟨ov, os, e9, w9⟩ := open_overs h9 f9
  rw [c5] at e0
  rw [c3] at e1 e2 e6
  rw [c4] at e3
  rw [c9] at e4 e5
  rw [c46] at e7
  rw [c47] at e8
  rw [c48] at e9
  have e0 := take_one e0
  have e1 := take_one e1
  have e2 := take_one e2
  have e3 := take_one e3
  have e4 := take_one e4
  have e5 := take_one e5
  have e6 := take_one e6
  have e7 := take_one e7
  have e8 := take_one e8
  have e9 := take_one e9
  refine ⟨⟨k, lo, hi, br, bd, op, su, ps, ms, os⟩, ⟨pv, mv, ov, list_of _ hl (fun i v hv => ?_), w7, w8, w9, ⟨(wf_u8 w0).1, (wf_u8 w0).2, (wf_i64 w1).1, (wf_i64 w1).2, (wf_i64 w2).1, (wf_i64 w2).2, (wf_i64 w6).1, (wf_i64 w6).2, w4, w5⟩⟩, hl⟩
  match i, hv with
  | 0, hv => cases hv; exact e0
  | 1, hv => cases hv; exact e1
  | 2, hv => cases hv; exact e2
  | 3, hv => cases hv; exact e3
  | 4, hv => cases hv; exact e4
  | 5, hv => cases hv; exact e5
  | 6, hv => cases hv; exact e6
  | 7, hv => cases hv; exact e7
  | 8, hv => cases hv; exact e8
  | 9, hv => cases hv; exact e9
theorem open_graph {n : Nat} {cs : List Value} {y : DataW H × List MemPlace} (h : DataW.trod enc Tryz.prog W 0 (fun _ => true) true n 23 cs = some y) (hf : Fits Tryz.prog 23 y.1) : ∃ v g, cs = [v] ∧ Graph W v g :=
  open_slw IsTy 10 Tryz.underlying23 c50 (by decide) (of_decide_eq_true (by kernel_rfl)) (fun m cs y h hf => open_ty h hf) h hf
theorem open_reveals {n : Nat} {cs : List Value} {y : DataW H × List MemPlace} (h : DataW.trod enc Tryz.prog W 0 (fun _ => true) true n 24 cs = some y) (hf : Fits Tryz.prog 24 y.1) : ∃ v rs, cs = [v] ∧ Reveals W v rs :=
  open_slw IsReveal 3 Tryz.underlying24 c43 (by decide) (of_decide_eq_true (by kernel_rfl)) (fun m cs y h hf => open_reveal h hf) h hf
end
end Go.Proofs.YtjffkeoajkhbmaaGreat

namespace Go.Proofs.YtjffkeoajkhbmaaGreat
open Go.ChangeShapes Go.WideShapes Go.ChangeAt Go.RowKit Go.Proofs
set_option linter.unusedVariables false
theorem own : ownKnob Tryz.prog.godebug = none := by kernel_rfl
theorem laidOut : laidOutB Tryz.prog = true := by kernel_rfl
section
variable {H : Type} {enc : TypeId × Value → H} {W : World}
set_option maxRecDepth 100000 in
theorem arg_graph {base : Nat} {v : Value} {d : DataW H} {p : List MemPlace} (hv : Value.okWide Tryz.prog W .any base 23 v) (h : DataW.Trod enc Tryz.prog W 0 (fun _ => true) true 23 v d p) (hf : Fits Tryz.prog 23 d) : ∃ a n c g, v = .slice a n c ∧ Graph W (.slice a n c) g := by
  obtain ⟨a, n, c, rfl⟩ := okWide_slice Tryz.underlying23 hv
  obtain ⟨m, hm⟩ := h
  obtain ⟨v', g, he, hg⟩ := open_graph hm hf
  change [Value.slice a n c] = [v'] at he
  injection he with he _
  subst he
  exact ⟨a, n, c, g, rfl, hg⟩
set_option maxRecDepth 100000 in
theorem arg_reveals {base : Nat} {v : Value} {d : DataW H} {p : List MemPlace} (hv : Value.okWide Tryz.prog W .any base 24 v) (h : DataW.Trod enc Tryz.prog W 0 (fun _ => true) true 24 v d p) (hf : Fits Tryz.prog 24 d) : ∃ a n c rs, v = .slice a n c ∧ Reveals W (.slice a n c) rs := by
  obtain ⟨a, n, c, rfl⟩ := okWide_slice Tryz.underlying24 hv
  obtain ⟨m, hm⟩ := h
  obtain ⟨v', g, he, hg⟩ := open_reveals hm hf
  change [Value.slice a n c] = [v'] at he
  injection he with he _
  subst he
  exact ⟨a, n, c, g, rfl, hg⟩
set_option maxRecDepth 100000 in
theorem arg_reveal {base : Nat} {v : Value} {d : DataW H} {p : List MemPlace} (hv : Value.okWide Tryz.prog W .any base 43 v) (h : DataW.Trod enc Tryz.prog W 0 (fun _ => true) true 43 v d p) (hf : Fits Tryz.prog 43 d) : ∃ r : Reveal, v = .agg #[.string r.name, .bool r.full, .int .i64 r.type] ∧ r.name.size ≤ maxBytes ∧ -9223372036854775808 ≤ r.type ∧ r.type ≤ 9223372036854775807 := by
  obtain ⟨cs, rfl, hc⟩ := okWide_struct Tryz.underlying43 hv
  obtain ⟨m, hm⟩ := h
  obtain ⟨r, ⟨he, hr⟩, _⟩ := open_reveal hm hf
  change cs.toList = _ at he
  refine ⟨r, ?_, hr⟩
  have : cs = #[.string r.name, .bool r.full, .int .i64 r.type] := Array.ext' he
  rw [this]
set_option maxRecDepth 100000 in
theorem arg_below {t : TypeId} {v : Value} {d : DataW H} {p : List MemPlace} (hr : Tryz.prog.readableRec t = true) (hrow : t < Tryz.prog.types.size) {W' : World} (h : DataW.Trod enc Tryz.prog W 0 (fun _ => true) true t v d p) (hb : Below W.heap.size W W') :
    DataW.Trod enc Tryz.prog W' 0 (fun b => decide (b < W.heap.size)) true t v d p := by
  obtain ⟨m, hm⟩ := h
  exact Below.trod laidOut hr hrow ⟨m, hm⟩ hb (DataW.trod_lt _ _ _ _ hm)
end
end Go.Proofs.YtjffkeoajkhbmaaGreat

namespace Go.Proofs.YtjffkeoajkhbmaaGreat
open Go.ChangeShapes Go.WideShapes Go.ChangeAt Go.RowKit Go.Proofs
set_option linter.unusedVariables false
set_option maxRecDepth 100000 in
theorem subMore_lifted (os : Os) (started : os.Started) (H : Type) (enc : TypeId × Value → H) :
    ReturnsInHanded {} Tryz.checked os 4 .any (Rows.subMoreSpec.pre6 enc Tryz.prog Tryz.f4 Rows.subMoreRow.domain false) (Rows.subMoreSpec.post enc Tryz.prog Tryz.f4 false true false false) := by
  refine returnsInHanded_of_change_sized (C := Tryz.checked) own started (by kernel_rfl) Tryz.func4
    (ChangeSpec.witness6 (enc := enc) (C := Tryz.checked) false ⟨#[], #[.slice none 0 0, .slice none 0 0, .agg #[.string ⟨#[]⟩, .bool false, .int .i64 0]], []⟩ 8 (by kernel_rfl) (by kernel_rfl) (by kernel_rfl) (by kernel_rfl)) ?_
  intro W base args ds gs before hval0 hW hcnd hsz _
  have hval : ∀ (j : Nat) t v, Tryz.f4.params[j]? = some t → args[j]? = some v → Value.okWide Tryz.prog W .any base t v := hval0
  have hW' := hW
  obtain ⟨p, q, hA0, hV, rfl, hfz, hnd⟩ := hW
  have hA : DataW.TrodAll enc Tryz.prog W 0 (fun _ => true) true Tryz.f4.params.toList args.toList ds p := hA0
  have hfit : ∀ (j : Nat) (t : TypeId) (d : DataW H), Tryz.f4.params.toList[j]? = some t → ds[j]? = some d → Fits Tryz.prog t d := fun j t d ht hd => by
    refine fits_each (ts := Tryz.f4.params.toList ++ Rows.subMoreSpec.plain.varTypes Tryz.prog) (ds := ds ++ gs) (fun m hm => of_decide_eq_true (List.all_eq_true.1 hsz m hm)) (j := j) ?_ ?_
    · rw [List.getElem?_append_left (List.getElem?_eq_some_iff.1 ht).1]; exact ht
    · rw [List.getElem?_append_left (List.getElem?_eq_some_iff.1 hd).1]; exact hd
  rw [Tryz.params4] at hA hval hfit
  obtain ⟨v0, vs0, d0, ds0, p0, q0, hargs, rfl, rfl, h0, r0⟩ := trodAll_cons hA
  obtain ⟨v1, vs1, d1, ds1, p1, q1, rfl, rfl, rfl, h1, r1⟩ := trodAll_cons r0
  obtain ⟨v2, vs2, d2, ds2, p2, q2, rfl, rfl, rfl, h2, r2⟩ := trodAll_cons r1
  obtain ⟨rfl, rfl, rfl⟩ := trodAll_nil r2
  obtain rfl : args = #[v0, v1, v2] := by cases args; simp_all
  obtain ⟨rfl, rfl⟩ := trodVars_none hV
  obtain ⟨a0, n0, c0, g0, rfl, w0⟩ := arg_graph (hval 0 23 v0 rfl rfl) h0 (hfit 0 23 d0 rfl rfl)
  obtain ⟨a1, n1, c1, g1, rfl, w1⟩ := arg_reveals (hval 1 24 v1 rfl rfl) h1 (hfit 1 24 d1 rfl rfl)
  obtain ⟨a2, rfl, w2⟩ := arg_reveal (hval 2 43 v2 rfl rfl) h2 (hfit 2 43 d2 rfl rfl)
  clear hA0 hval0 hsz
  refine (subMore4 a0 n0 c0 g0 a1 n1 c1 g1 a2 W w0 w1 w2).mono fun e W' ⟨he, bel⟩ => ?_
  subst he
  exact ⟨_, rfl, _, _, _, [], _, [], hW', trodAll_mk1 (shut_bool Tryz.underlying4 _), (trodAll_cons_mk (arg_below (by kernel_rfl) (of_decide_eq_true (by kernel_rfl)) h0 bel) (trodAll_cons_mk (arg_below (by kernel_rfl) (of_decide_eq_true (by kernel_rfl)) h1 bel) (trodAll_cons_mk (arg_below (by kernel_rfl) (of_decide_eq_true (by kernel_rfl)) h2 bel) trodAll_mk0))), rfl, bel.frame _, fun h => by cases h⟩
theorem subMore_over : Rows.subMoreRow.holds Tryz.pinned (OpenSpec.ofChange Rows.subMoreSpec) :=
  OpenClaim.holds_of_wide 4 Tryz.f4 rfl rfl rfl rfl rfl rfl rfl ⟨rfl, rfl, rfl, rfl, rfl⟩ rfl rfl rfl rfl rfl (by kernel_rfl) Tryz.func4 (by kernel_rfl)
    (of_decide_eq_true (by kernel_rfl)) (by unfold Func.isWrapper; first | (rw [if_pos (by decide +kernel)]; kernel_rfl) | (rw [if_neg (by decide +kernel)]; exact ⟨rfl, rfl⟩))
    (fun os started H enc _ => subMore_lifted os started H enc)
theorem subMore_holds : Rows.SubMoreSaid := subMore_over
#print axioms subMore_holds
end Go.Proofs.YtjffkeoajkhbmaaGreat
