/- What lies below what, in plain Lean: steps told one by one; words stay words; types that are the same; more revelations. Words lie below words alone; types that are equal are the same; what lies below stays below with more revelations. The law's bound on graphs. The law SubNil, walked. The law SubJoins: in plain Lean, and walked. -/
import Derived.Test.YtjffkeoajkhbmaaGreatM10
import Derived.Test.YtjffkeoajkhbmaaGreatM13
import Derived.Test.YtjffkeoajkhbmaaGreatM15
import Derived.Test.YtjffkeoajkhbmaaGreatM29
import Derived.Test.YtjffkeoajkhbmaaGreatM30
namespace Go.Proofs.YtjffkeoajkhbmaaGreat
open Go.RowKit Go.Proofs
set_option linter.unusedSimpArgs false
theorem succ_ok {g : List Ty} {rs : List Reveal} (h : openE g rs = 0) : ∀ x, x < g.length → ∀ u, u ∈ succF g (classesOf g) rs x → u < g.length := by
  obtain ⟨_, h400, h60, hr, hbad⟩ := opens h
  exact succF_lt hr h60 (fun i hi => rev_in (hbad i hi))
theorem nth_reachL {g : List Ty} {rs : List Reveal} {a : Nat} (ha : a < g.length) : nth (reachL g rs g.length) a = reachN (succF g (classesOf g) rs) g.length a := by
  rw [nth_eq (by rw [reachL_len]; exact ha)]
  simp [reachL]
def Lies (g : List Ty) (rs : List Reveal) (a b : Nat) : Prop := Reach (succF g (classesOf g) rs) a b
theorem bit_lies {g : List Ty} {rs : List Reveal} (h : openE g rs = 0) {a b : Nat} (ha : a < g.length) : (nth (reachL g rs g.length) a).testBit b = true ↔ Lies g rs a b := by
  rw [nth_reachL ha]
  exact reachN_iff ha (succ_ok h) b
theorem lies_lt {g : List Ty} {rs : List Reveal} (h : openE g rs = 0) {a b : Nat} (ha : a < g.length) (hl : Lies g rs a b) : b < g.length := reach_lt ha (succ_ok h) hl
theorem asked_in {n : Nat} {l : List Int} (h : ∀ i, i ∈ l → 0 ≤ i ∧ i < n) : askedR n l = 0 := by
  rcases askedR_cases n l with ⟨h0, _⟩ | ⟨_, i, hi, hh⟩
  · exact h0
  · have := h i hi
    rw [hasI_iff.2 this] at hh; cases hh
theorem asked_two {n a b : Nat} (ha : a < n) (hb : b < n) : askedR n [(a : Int), (b : Int)] = 0 := asked_in (fun i hi => by
  simp only [List.mem_cons, List.not_mem_nil, or_false] at hi
  omega)
theorem belowQ_iff {g : List Ty} {rs : List Reveal} (h : openE g rs = 0) {a b : Nat} (ha : a < g.length) (hb : b < g.length) : (belowQ g rs a b).2 = 0 ∧ ((belowQ g rs a b).1 = true ↔ Lies g rs a b) := by
  unfold belowQ belowR
  rw [if_pos (asked_two ha hb)]
  exact ⟨rfl, bit_lies h ha⟩
def StepOk (g : List Ty) (C : Nat → Nat) (rs : List Reveal) (x : Nat) (s : Stp) : Prop :=
  (s.rule = 1 ∧ s.n = 0 ∧ s.to_ < g.length ∧ C s.to_ = C x) ∨
  (s.rule = 2 ∧ s.n = 0 ∧ s.to_ < g.length ∧ (nth g x).kind = 3 ∧ widerB (nth g x) (nth g s.to_) = true) ∨
  (s.rule = 3 ∧ s.n = 0 ∧ s.to_ < g.length ∧ (nth g x).kind = 5 ∧ isWordB (nth g s.to_).kind = false) ∨
  (s.rule = 4 ∧ s.n = 0 ∧ hasSuperB (nth g x).kind = true ∧ s.to_ = (nth g x).super.toNat) ∨
  (s.rule = 5 ∧ s.n < rs.length ∧ (nth g x).kind = 13 ∧ (nth rs s.n).name = (nth g x).opq ∧ s.to_ = (nth rs s.n).type.toNat) ∨
  (s.rule = 6 ∧ s.n < rs.length ∧ s.to_ < g.length ∧ (nth rs s.n).full = true ∧ (nth rs s.n).type = (x : Int) ∧ (nth g s.to_).kind = 13 ∧ (nth g s.to_).opq = (nth rs s.n).name) ∨
  (s.rule = 7 ∧ s.n = 0 ∧ s.to_ < g.length ∧ anyP (anyTo (nth g x).kind) (nth g s.to_).kind = true)
theorem mem_toL {r n : Nat} {p : Nat → Bool} {s : Stp} : s ∈ toL r n p ↔ s.rule = r ∧ s.n = 0 ∧ s.to_ < n ∧ p s.to_ = true := by
  unfold toL
  simp only [List.mem_map, List.mem_filter, List.mem_range]
  constructor
  · rintro ⟨u, ⟨h1, h2⟩, rfl⟩; exact ⟨rfl, rfl, h1, h2⟩
  · obtain ⟨a, b, c⟩ := s
    rintro ⟨h1, h2, h3, h4⟩
    simp only at h1 h2 h3 h4
    subst h1 h2
    exact ⟨b, ⟨h3, h4⟩, rfl⟩
theorem mem_byN {rs : List Reveal} {k : Nat} {name : BA} {i : Nat} : i ∈ byN rs k name ↔ i < k ∧ (nth rs i).name = name := by
  unfold byN
  simp only [List.mem_filter, List.mem_range, beq_iff_eq]
theorem mem_back {g : List Ty} {rs : List Reveal} {t : Nat} {s : Stp} : s ∈ backL g rs t ↔ s.rule = 6 ∧ s.n < rs.length ∧ s.to_ < g.length ∧ (nth rs s.n).full = true ∧ (nth rs s.n).type = (t : Int) ∧ (nth g s.to_).kind = 13 ∧ (nth g s.to_).opq = (nth rs s.n).name := by
  unfold backL backUpTo
  simp only [List.mem_flatten, List.mem_map, List.mem_range]
  constructor
  · rintro ⟨l, ⟨i, hi, rfl⟩, hs⟩
    unfold backOf at hs
    split at hs
    · rename_i h
      simp only [Bool.and_eq_true, beq_iff_eq] at h
      obtain ⟨u, hu, rfl⟩ := List.mem_map.1 hs
      obtain ⟨h1, h2⟩ := List.mem_filter.1 hu
      simp only [Bool.and_eq_true, beq_iff_eq] at h2
      exact ⟨rfl, hi, List.mem_range.1 h1, h.1, h.2, h2.1, h2.2⟩
    · cases hs
  · obtain ⟨a, b, c⟩ := s
    rintro ⟨h1, h2, h3, h4, h5, h6, h7⟩
    simp only at h1 h2 h3 h4 h5 h6 h7
    subst h1
    refine ⟨_, ⟨c, h2, rfl⟩, ?_⟩
    unfold backOf
    rw [if_pos (by rw [h4, h5]; simp)]
    exact List.mem_map.2 ⟨b, List.mem_filter.2 ⟨List.mem_range.2 h3, by rw [h6, h7]; simp⟩, rfl⟩
theorem mem_steps {g : List Ty} {C : Nat → Nat} {rs : List Reveal} {x : Nat} {s : Stp} : s ∈ stepsL g C rs x ↔ StepOk g C rs x s := by
  unfold stepsL stepsTo
  simp only [List.mem_flatten, List.mem_map, List.mem_range]
  constructor
  · rintro ⟨l, ⟨i, hi, rfl⟩, hs⟩
    rcases (show i = 0 ∨ i = 1 ∨ i = 2 ∨ i = 3 ∨ i = 4 ∨ i = 5 ∨ i = 6 ∨ i = 7 by omega) with rfl | rfl | rfl | rfl | rfl | rfl | rfl | rfl
    · cases hs
    · have := mem_toL.1 hs
      exact Or.inl ⟨this.1, this.2.1, this.2.2.1, by simpa using this.2.2.2⟩
    · simp only [ruleL, widerL] at hs
      split at hs
      · rename_i h
        have := mem_toL.1 hs
        exact Or.inr (Or.inl ⟨this.1, this.2.1, this.2.2.1, h, this.2.2.2⟩)
      · cases hs
    · simp only [ruleL, nullL] at hs
      split at hs
      · rename_i h
        have := mem_toL.1 hs
        exact Or.inr (Or.inr (Or.inl ⟨this.1, this.2.1, this.2.2.1, h, by simpa using this.2.2.2⟩))
      · cases hs
    · simp only [ruleL, superL] at hs
      split at hs
      · rename_i h
        rw [List.mem_singleton] at hs
        subst hs
        exact Or.inr (Or.inr (Or.inr (Or.inl ⟨rfl, rfl, h, rfl⟩)))
      · cases hs
    · simp only [ruleL, revealL] at hs
      split at hs
      · rename_i h
        obtain ⟨i, hi, rfl⟩ := List.mem_map.1 hs
        have := mem_byN.1 hi
        exact Or.inr (Or.inr (Or.inr (Or.inr (Or.inl ⟨rfl, this.1, h, this.2, rfl⟩))))
      · cases hs
    · exact Or.inr (Or.inr (Or.inr (Or.inr (Or.inr (Or.inl (mem_back.1 hs))))))
    · have := mem_toL.1 hs
      exact Or.inr (Or.inr (Or.inr (Or.inr (Or.inr (Or.inr ⟨this.1, this.2.1, this.2.2.1, this.2.2.2⟩)))))
  · obtain ⟨a, b, c⟩ := s
    rintro (⟨h1, h2, h3, h4⟩ | ⟨h1, h2, h3, h4, h5⟩ | ⟨h1, h2, h3, h4, h5⟩ | ⟨h1, h2, h3, h4⟩ | ⟨h1, h2, h3, h4, h5⟩ | h | ⟨h1, h2, h3, h4⟩)
    · exact ⟨_, ⟨1, by decide, rfl⟩, mem_toL.2 ⟨h1, h2, h3, by simpa using h4⟩⟩
    · refine ⟨_, ⟨2, by decide, rfl⟩, ?_⟩
      simp only [ruleL, widerL]
      rw [if_pos h4]
      exact mem_toL.2 ⟨h1, h2, h3, h5⟩
    · refine ⟨_, ⟨3, by decide, rfl⟩, ?_⟩
      simp only [ruleL, nullL]
      rw [if_pos h4]
      exact mem_toL.2 ⟨h1, h2, h3, by simpa using h5⟩
    · refine ⟨_, ⟨4, by decide, rfl⟩, ?_⟩
      simp only [ruleL, superL]
      rw [if_pos h3, List.mem_singleton]
      simp only at h1 h2 h4
      rw [h1, h2, h4]
    · refine ⟨_, ⟨5, by decide, rfl⟩, ?_⟩
      simp only [ruleL, revealL]
      rw [if_pos h3]
      simp only at h1 h2 h4 h5
      exact List.mem_map.2 ⟨c, mem_byN.2 ⟨h2, h4⟩, by rw [h1, h5]⟩
    · exact ⟨_, ⟨6, by decide, rfl⟩, mem_back.2 h⟩
    · exact ⟨_, ⟨7, by decide, rfl⟩, mem_toL.2 ⟨h1, h2, h3, h4⟩⟩
theorem lead_le_of {i k : Nat} {p : Nat → Bool} (hk : k < i) (h : p k = true) : lead i p ≤ k := by
  unfold lead
  cases hf : (List.range i).find? p with
  | none =>
    have := List.find?_eq_none.1 hf k (List.mem_range.2 hk)
    exact absurd h this
  | some m =>
    show m ≤ k
    rw [List.find?_range_eq_some] at hf
    rcases Nat.lt_or_ge k m with hlt | hge
    · have := hf.2.2 k hlt
      rw [h] at this; cases this
    · exact hge
theorem leadF_same {q : Nat → Nat → Bool} {i j : Nat} (hij : i ≤ j) (hq : ∀ k, q i k = q j k) (hr : q i i = true) : leadF q i = leadF q j := by
  rw [leadF_eq q j]
  rcases Nat.lt_or_ge i j with hlt | hge
  · have h0 := leadF_eq q i
    rcases lead_cases i (fun k => leadF q k == k && q i k) with h | ⟨h, h2⟩
    · have hli : leadF q i = i := by rw [h0, h]
      rw [hli]
      refine (lead_hit hlt (by rw [hli, ← hq i, hr]; simp) (fun k hk => ?_)).symm
      cases hc : (leadF q k == k && q j k) with
      | false => rfl
      | true =>
        exfalso
        rw [← hq k] at hc
        have := lead_le_of (p := fun k => leadF q k == k && q i k) hk hc
        omega
    · have hli : leadF q i = lead i (fun k => leadF q k == k && q i k) := h0
      rw [hli]
      refine (lead_hit (by omega) (by rw [← hq]; exact h2) (fun k hk => ?_)).symm
      cases hc : (leadF q k == k && q j k) with
      | false => rfl
      | true =>
        exfalso
        rw [← hq k] at hc
        have := lead_le_of (p := fun k => leadF q k == k && q i k) (show k < i by omega) hc
        omega
  · have : i = j := by omega
    subst this
    exact leadF_eq q i
end Go.Proofs.YtjffkeoajkhbmaaGreat

namespace Go.Proofs.YtjffkeoajkhbmaaGreat
open Go.RowKit Go.Proofs
set_option linter.unusedSimpArgs false
theorem sameB_refl {α : Type} {eq : α → α → Bool} (h : ∀ x, eq x x = true) : ∀ l, sameB eq l l = true
  | [] => rfl
  | x :: l => by simp only [sameB, h x, sameB_refl h l, Bool.and_self]
theorem agreeB_refl (x : Ty) : agreeB x x = true := by
  unfold agreeB plainEq
  rw [sameB_refl (fun p => by unfold partEq; simp), sameB_refl (fun m => by unfold methEq; simp [sameB_refl (fun (a : BA) => by simp : ∀ a : BA, (a == a) = true)]), sameB_refl (fun o => by unfold overEq; simp)]
  simp
theorem iter_same {g : List Ty} {i j : Nat} (hij : i ≤ j) (hx : nth g i = nth g j) : ∀ m, classIter g m i = classIter g m j
  | 0 => leadF_same hij (fun k => by rw [hx]) (agreeB_refl _)
  | m + 1 => by
    have ih := iter_same hij hx m
    refine leadF_same hij (fun k => ?_) ?_
    · show (classIter g m k == classIter g m i && stepQ g (classIter g m) i k) = (classIter g m k == classIter g m j && stepQ g (classIter g m) j k)
      unfold stepQ mineOf
      rw [ih, hx]
    · show (classIter g m i == classIter g m i && stepQ g (classIter g m) i i) = true
      unfold stepQ
      rw [sameB_refl (fun x => by simp)]
      simp
theorem classes_eq {g : List Ty} {i j : Nat} (hx : nth g i = nth g j) : classesOf g i = classesOf g j := by
  unfold classesOf
  rcases Nat.le_total i j with h | h
  · exact iter_same h hx _
  · exact (iter_same h hx.symm _).symm
theorem iter_kind {g : List Ty} {i j : Nat} : ∀ m, classIter g m i = classIter g m j → (nth g i).kind = (nth g j).kind
  | 0, h => by
    have key : ∀ i, (nth g i).kind = (nth g (class0 g i)).kind := fun i => by
      rcases leadF_with (fun i k => agreeB (nth g i) (nth g k)) i with h | h
      · show _ = (nth g (leadF (fun i k => agreeB (nth g i) (nth g k)) i)).kind
        rw [h]
      · unfold agreeB plainEq at h
        simp only [Bool.and_eq_true, beq_iff_eq] at h
        exact h.1.1.1.1.1.1.1.1
    rw [key i, key j]
    exact congrArg (fun k => (nth g k).kind) h
  | m + 1, h => by
    refine iter_kind m ?_
    have h1 := parted_le (C := classIter g m) (stepQ g (classIter g m)) i
    have h2 := parted_le (C := classIter g m) (stepQ g (classIter g m)) j
    rw [← h1, ← h2]
    exact congrArg (classIter g m) h
theorem classes_kind {g : List Ty} {i j : Nat} (h : classesOf g i = classesOf g j) : (nth g i).kind = (nth g j).kind := iter_kind _ h
theorem right_kind {g : List Ty} {x : Ty} (h : rightB g x = true) : 1 ≤ x.kind ∧ x.kind ≤ 13 := by
  unfold rightB at h
  split at h
  · omega
  · split at h
    · omega
    · split at h
      · omega
      · split at h
        · omega
        · split at h
          · omega
          · split at h
            · omega
            · cases h
theorem right_plain {g : List Ty} {x y : Ty} (h : rightB g x = true) (k : rightB g y = true) (hx : x.kind = 1) (hy : y.kind = 1) : x = y := by
  have key : ∀ x : Ty, rightB g x = true → x.kind = 1 → x = ⟨1, 0, 0, false, ⟨#[]⟩, ⟨#[]⟩, 0, [], [], []⟩ := fun x h hx => by
    unfold rightB at h
    simp only [hx] at h
    simp [noNums, noBrand, noOpq, noSuper, noParts, noRows] at h
    obtain ⟨k, lo, hi, br, bd, op, su, ps, ms, os⟩ := x
    simp only at h hx
    obtain ⟨⟨⟨⟨⟨⟨h1, h2⟩, h3, h4⟩, h5⟩, h6⟩, h7⟩, h8, h9⟩ := h
    rw [hx, h1, h2, h3, h4, h5, h6, h7, h8, h9]
    rfl
  rw [key x h hx, key y k hy]
theorem super_kind {g : List Ty} {x : Ty} (h : rightB g x = true) (hs : hasSuperB x.kind = true) : isWordB (nth g x.super.toNat).kind = false := by
  unfold hasSuperB at hs
  simp only [Bool.or_eq_true, beq_iff_eq] at hs
  have hk : ([12, 6, 7, 8, 13, 4] : List Int).contains (nth g x.super.toNat).kind = true := by
    unfold rightB at h
    rcases hs with hk | hk
    · simp only [hk] at h
      simp [objectsB, objectB, overB] at h
      simp
      grind
    · simp only [hk] at h
      simp [opqB, overB] at h
      simp
      grind
  simp at hk
  unfold isWordB
  simp
  omega
theorem super_word {g : List Ty} {x : Ty} (hs : hasSuperB x.kind = true) : isWordB x.kind = false := by
  unfold hasSuperB at hs
  unfold isWordB
  simp only [Bool.or_eq_true, beq_iff_eq] at hs
  simp
  omega
theorem step_word {g : List Ty} {rs : List Reveal} (h : openE g rs = 0) {x : Nat} (hx : x < g.length) {s : Stp} (hs : StepOk g (classesOf g) rs x s) : isWordB (nth g x).kind = isWordB (nth g s.to_).kind := by
  obtain ⟨_, h400, h60, hr, hbad⟩ := opens h
  have hrev : ∀ i, i < rs.length → isWordB (nth g (nth rs i).type.toNat).kind = false := fun i hi => by
    have := hbad i hi
    unfold badRev at this
    simp only [Bool.or_eq_false_iff] at this
    exact this.1.1.2
  rcases hs with ⟨_, _, _, h4⟩ | ⟨_, _, _, h4, h5⟩ | ⟨_, _, _, h4, h5⟩ | ⟨_, _, h3, h4⟩ | ⟨_, h2, h3, h4, h5⟩ | ⟨_, h2, h3, h4, h5, h6, h7⟩ | ⟨_, _, h3, h4⟩
  · rw [classes_kind h4]
  · rw [h4]
    unfold widerB at h5
    simp only [Bool.or_eq_true, Bool.and_eq_true, beq_iff_eq] at h5
    rcases h5 with h5 | h5
    · rw [h5]; decide
    · rw [h5.1.1]
  · rw [h4, h5]; decide
  · rw [super_word (g := g) h3, h4, super_kind (hr x hx) h3]
  · rw [h3, h5, hrev _ h2]; decide
  · have := hrev _ h2
    rw [h5] at this
    have h9 : isWordB (nth g x).kind = false := by simpa using this
    rw [h6, h9]; decide
  · unfold anyP anyTo at h4
    simp only [Bool.and_eq_true, bne_iff_ne, ne_eq, beq_iff_eq] at h4
    unfold isWordB
    rw [h4.2]
    split
    · rename_i hk
      rcases hk with hk | hk <;> rw [hk] <;> rfl
    · split
      · rename_i hk
        rcases hk with hk | hk | hk | hk <;> rw [hk] <;> rfl
      · rename_i hk1 hk2
        rw [if_neg hk1, if_neg hk2] at h4
        exact absurd rfl h4.1
theorem lies_word {g : List Ty} {rs : List Reveal} (h : openE g rs = 0) {a b : Nat} (ha : a < g.length) (hl : Lies g rs a b) : isWordB (nth g a).kind = isWordB (nth g b).kind := by
  have key : b < g.length ∧ isWordB (nth g a).kind = isWordB (nth g b).kind := by
    induction hl with
    | refl => exact ⟨ha, rfl⟩
    | step _ hc ih =>
      obtain ⟨s, hs, rfl⟩ := List.mem_map.1 hc
      exact ⟨succ_ok h _ ih.1 _ hc, ih.2.trans (step_word h ih.1 (mem_steps.1 hs))⟩
  exact key.2
theorem step_lies {g : List Ty} {rs : List Reveal} {x : Nat} {s : Stp} (hs : StepOk g (classesOf g) rs x s) : Lies g rs x s.to_ := Reach.one (List.mem_map.2 ⟨s, mem_steps.2 hs, rfl⟩)
theorem same_lies {g : List Ty} {rs : List Reveal} {a b : Nat} (hb : b < g.length) (h : classesOf g a = classesOf g b) : Lies g rs a b := step_lies (s := ⟨1, b, 0⟩) (Or.inl ⟨rfl, rfl, hb, h.symm⟩)
theorem number_lies {g : List Ty} {rs : List Reveal} (h : openE g rs = 0) {a b : Nat} (ha : a < g.length) (hb : b < g.length) (hk : (nth g b).kind = 1) (h2 : (nth g a).kind = 1 ∨ (nth g a).kind = 3) : Lies g rs a b := by
  obtain ⟨_, h400, h60, hr, hbad⟩ := opens h
  rcases h2 with h2 | h2
  · exact same_lies hb (classes_eq (right_plain (hr a ha) (hr b hb) h2 hk))
  · exact step_lies (s := ⟨2, b, 0⟩) (Or.inr (Or.inl ⟨rfl, rfl, hb, h2, by unfold widerB; rw [hk]; rfl⟩))
theorem nth_append {α : Type} [Inhabited α] (l m : List α) {i : Nat} (h : i < l.length) : nth (l ++ m) i = nth l i := by
  rw [nth_eq h, nth_eq (by rw [List.length_append]; omega), List.getElem_append_left h]
theorem nth_last {α : Type} [Inhabited α] (l : List α) (x : α) : nth (l ++ [x]) l.length = x := by
  rw [nth_eq (by simp)]; simp
theorem more_step {g : List Ty} {C : Nat → Nat} {rs : List Reveal} (r : Reveal) {x : Nat} {s : Stp} (h : StepOk g C rs x s) : StepOk g C (rs ++ [r]) x s := by
  have hl : (rs ++ [r]).length = rs.length + 1 := by simp
  rcases h with h | h | h | h | ⟨h1, h2, h3, h4, h5⟩ | ⟨h1, h2, h3, h4, h5, h6, h7⟩ | h
  · exact Or.inl h
  · exact Or.inr (Or.inl h)
  · exact Or.inr (Or.inr (Or.inl h))
  · exact Or.inr (Or.inr (Or.inr (Or.inl h)))
  · exact Or.inr (Or.inr (Or.inr (Or.inr (Or.inl ⟨h1, by omega, h3, by rw [nth_append _ _ h2]; exact h4, by rw [nth_append _ _ h2]; exact h5⟩))))
  · exact Or.inr (Or.inr (Or.inr (Or.inr (Or.inr (Or.inl ⟨h1, by omega, h3, by rw [nth_append _ _ h2]; exact h4, by rw [nth_append _ _ h2]; exact h5, h6, by rw [nth_append _ _ h2]; exact h7⟩)))))
  · exact Or.inr (Or.inr (Or.inr (Or.inr (Or.inr (Or.inr h)))))
theorem more_lies {g : List Ty} {rs : List Reveal} (r : Reveal) {a b : Nat} (h : Lies g rs a b) : Lies g (rs ++ [r]) a b :=
  Reach.mono (fun x u hu => by
    obtain ⟨s, hs, rfl⟩ := List.mem_map.1 hu
    exact List.mem_map.2 ⟨s, mem_steps.2 (more_step r (mem_steps.1 hs)), rfl⟩) h
theorem revealed_lies {g : List Ty} {rs : List Reveal} {r : Reveal} {a t : Nat} (ha : a < g.length) (hk : (nth g a).kind = 13) (ho : (nth g a).opq = r.name) (hf : r.full = true) (ht : r.type = (t : Int)) : Lies g (rs ++ [r]) a t ∧ Lies g (rs ++ [r]) t a := by
  have hl : (rs ++ [r]).length = rs.length + 1 := by simp
  refine ⟨step_lies (s := ⟨5, t, rs.length⟩) (Or.inr (Or.inr (Or.inr (Or.inr (Or.inl ⟨rfl, by show rs.length < _; omega, hk, ?_, ?_⟩))))), step_lies (s := ⟨6, a, rs.length⟩) (Or.inr (Or.inr (Or.inr (Or.inr (Or.inr (Or.inl ⟨rfl, by show rs.length < _; omega, ha, ?_, ?_, hk, ?_⟩))))))⟩
  · rw [show (⟨5, t, rs.length⟩ : Stp).n = rs.length from rfl, nth_last]; exact ho.symm
  · rw [show (⟨5, t, rs.length⟩ : Stp).n = rs.length from rfl, nth_last, ht]; simp
  · rw [show (⟨6, a, rs.length⟩ : Stp).n = rs.length from rfl, nth_last]; exact hf
  · rw [show (⟨6, a, rs.length⟩ : Stp).n = rs.length from rfl, nth_last]; exact ht
  · rw [show (⟨6, a, rs.length⟩ : Stp).n = rs.length from rfl, nth_last]; exact ho
end Go.Proofs.YtjffkeoajkhbmaaGreat

namespace Go.Proofs.YtjffkeoajkhbmaaGreat
open Go.RowKit Go.Proofs Go.Shelf
set_option linter.unusedSimpArgs false
def LittlePost (w : World) (g : List Ty) (e : Ending) (w' : World) : Prop := ∃ b, e = .returned (.bool b) ∧ Ext w w' ∧ (b = true → g.length ≤ 404)
set_option maxHeartbeats 4000000 in
set_option maxRecDepth 100000 in
theorem little13 (a : Option Addr) (n c : Nat) (g : List Ty) (w : World) (hg : Graph w (.slice a n c) g) : Calls Tryz.prog 13 #[.slice a n c] w (LittlePost w g) := by
  have hb := (SlW.bound hg).2
  obtain rfl := SlW.len hg
  have Hg := Lib.hid hg
  clear hg
  rcases (show (24 < g.length ∧ g.length ≤ 400) ∨ 404 < g.length ∨ (g.length ≤ 24 ∨ (400 < g.length ∧ g.length ≤ 404)) by omega) with ⟨h1, h2⟩ | h1 | hok
  · go_enter Tryz.func13, Tryz.ntmps13
    go_wp2_with fail
    go_ret
    exact ⟨false, rfl, Ext.refl _, fun h => by cases h⟩
  · have h2 : ¬ g.length ≤ 400 := by omega
    have h3 : 24 < g.length := by omega
    go_enter Tryz.func13, Tryz.ntmps13
    go_wp2_with fail
    go_ret
    exact ⟨false, rfl, Ext.refl _, fun h => by cases h⟩
  have h404 : g.length ≤ 404 := by omega
  go_enter Tryz.func13, Tryz.ntmps13
  rcases hok with h24 | ⟨h1, h2⟩
  all_goals
    go_wp2_with fail
    go_loopw [3] (fun i wr => ∃ k : Nat, k ≤ g.length ∧ k ≤ 24 ∧ i = .int .i64 k ∧ Hid (Ext w wr)) (fun i _ => 24 - (intOf i).toNat)
    case atStart => exact ⟨0, Nat.zero_le _, Nat.zero_le _, rfl, Lib.hid (Ext.refl _)⟩
    case round =>
      obtain ⟨k, hk, hk24, rfl, hE⟩ := hrel
      by_cases hlt : k < g.length ∧ k < 24
      · obtain ⟨hlt1, hlt2⟩ := hlt
        obtain ⟨b, off, pa, pl, pc, ma, ml, mc, oa, ol, oc, hgo, hlt3, hT⟩ := Graph.at (Graph.mono hE.out Hg.out) hlt1
        cases hgo
        have d0 := hT.c0
        have d1 := hT.c1
        have d2 := hT.c2
        have d3 := hT.c3
        have d4 := hT.c4
        have d5 := hT.c5
        have d6 := hT.c6
        have d7 := hT.c7
        have d8 := hT.c8
        have d9 := hT.c9
        have s4 := hT.ok.b
        have s5 := hT.ok.o
        unfold maxBytes at s4 s5
        have bp := (SlW.bound hT.ps).2
        have bm := (SlW.bound hT.ms).2
        have bo := (SlW.bound hT.os).2
        have HT := Lib.hid hT
        clear hT
        obtain ⟨wo, hwo⟩ : ∃ wo : World, wo = wr.alloc (.cells (tyCells (nth g k) (.slice pa pl pc) (.slice ma ml mc) (.slice oa ol oc)).toArray 50) := ⟨_, rfl⟩
        obtain ⟨b4, hb4⟩ : ∃ b4, b4 = wr.heap.size := ⟨_, rfl⟩
        have hEo : Ext wr wo := by rw [hwo]; exact Ext.alloc _ _
        have hr4 : wo.heap[b4]? = some (.cells (tyCells (nth g k) (.slice pa pl pc) (.slice ma ml mc) (.slice oa ol oc)).toArray 50 (0, 0)) := by rw [hwo, hb4]; exact heap_alloc_new _ _
        have e4 : wo.cell? ⟨b4, 4, none⟩ = some (.string (nth g k).brand) := row_cell hr4 rfl
        have e5 : wo.cell? ⟨b4, 5, none⟩ = some (.string (nth g k).opq) := row_cell hr4 rfl
        have e7 : wo.cell? ⟨b4, 7, none⟩ = some (.slice pa pl pc) := row_cell hr4 rfl
        have e8 : wo.cell? ⟨b4, 8, none⟩ = some (.slice ma ml mc) := row_cell hr4 rfl
        have e9 : wo.cell? ⟨b4, 9, none⟩ = some (.slice oa ol oc) := row_cell hr4 rfl
        have l4 := row_lt hr4
        have HEo := Lib.hid (hE.out.trans hEo)
        have Hp := Lib.hid (Parts.mono hEo HT.out.ps)
        have Hme := Lib.hid (Meths.mono hEo HT.out.ms)
        have Hwo := Lib.hid hwo
        have Hb4 := Lib.hid hb4
        have Hr4 := Lib.hid hr4
        clear hwo hb4 hEo hr4
        go_upto_region 7 with (fail)
        have hw0 : Hid (wo = wr.alloc (.cells #[.int .u8 (nth g k).kind, .int .i64 (nth g k).low, .int .i64 (nth g k).high, .bool (nth g k).branded, .string (nth g k).brand, .string (nth g k).opq, .int .i64 (nth g k).super, .slice pa pl pc, .slice ma ml mc, .slice oa ol oc] 50)) := Lib.hid Hwo.out
        rw [← hw0.out, ← Hb4.out]
        clear d0 d1 d2 d3 d4 d5 d6 d7 d8 d9
        rcases (show 10 < pl ∨ (pl ≤ 10 ∧ 10 < ml) ∨ (pl ≤ 10 ∧ ml ≤ 10 ∧ 10 < ol) ∨ (pl ≤ 10 ∧ ml ≤ 10 ∧ ol ≤ 10 ∧ 30 < (nth g k).brand.size) ∨ (pl ≤ 10 ∧ ml ≤ 10 ∧ ol ≤ 10 ∧ (nth g k).brand.size ≤ 30 ∧ 40 < (nth g k).opq.size) ∨ (pl ≤ 10 ∧ ml ≤ 10 ∧ ol ≤ 10 ∧ (nth g k).brand.size ≤ 30 ∧ (nth g k).opq.size ≤ 40) by omega) with h1 | ⟨h1, h2⟩ | ⟨h1, h2, h3⟩ | ⟨h1, h2, h3, h4⟩ | ⟨h1, h2, h3, h4, h5⟩ | ⟨h1, h2, h3, h4, h5⟩
        · go_wp2_with fail
          go_ret
          exact ⟨false, rfl, HEo.out, fun h => by cases h⟩
        · go_wp2_with fail
          go_ret
          exact ⟨false, rfl, HEo.out, fun h => by cases h⟩
        · go_wp2_with fail
          go_ret
          exact ⟨false, rfl, HEo.out, fun h => by cases h⟩
        · go_wp2_with fail
          go_ret
          exact ⟨false, rfl, HEo.out, fun h => by cases h⟩
        · go_wp2_with fail
          go_ret
          exact ⟨false, rfl, HEo.out, fun h => by cases h⟩
        · go_wp2_with fail
          go_loop [5] (fun v => ∃ j : Nat, j ≤ pl ∧ v = .int .i64 j) (fun v => pl - (intOf v).toNat)
          case atStart => exact ⟨0, Nat.zero_le _, rfl⟩
          case round =>
            obtain ⟨j, hj, rfl⟩ := hrel
            by_cases hjl : j < pl
            · obtain ⟨pb, po, rfl, lpb, q0, q1, q2, -, -⟩ := Parts.at Hp.out hjl
              by_cases hnm : (nth (nth g k).parts j).name.size ≤ 20
              · go_wp2_with fail
                go_round
                case rel => exact ⟨j + 1, by omega, by go_num⟩
                case measure => simp [intOf]; omega
              · go_wp2_with fail
                go_ret
                exact ⟨false, rfl, HEo.out, fun h => by cases h⟩
            · clear e4 e5 e9
              go_wp2_with fail
              clear e7
              go_loopw [6] (fun v w2 => ∃ i : Nat, i ≤ ml ∧ v = .int .i64 i ∧ Hid (Ext wo w2)) (fun v _ => ml - (intOf v).toNat)
              case atStart => exact ⟨0, Nat.zero_le _, rfl, Lib.hid (Ext.refl _)⟩
              case round =>
                obtain ⟨i, hi, rfl, hE2⟩ := hrel
                have e8 : wr.cell? ⟨b4, 8, none⟩ = some (.slice ma ml mc) := hE2.out.cell e8
                by_cases hil : i < ml
                · obtain ⟨mb, mo, aa, al, ac, ra, rl, rc, rfl, lmb, q0, q1, q2, q3, q4, q5, q6, -, -, q9, q10⟩ := Meths.at (Meths.mono hE2.out Hme.out) hil
                  have z5 := (SlW.bound q5).2
                  have z6 := (SlW.bound q6).2
                  have HEf := Lib.hid (HEo.out.trans (hE2.out.trans (Ext.alloc _ (.cells #[.string (nth (nth g k).methods i).name, .slice aa al ac, .int .i64 (nth (nth g k).methods i).sig.result, .slice ra rl rc, .string (nth (nth g k).methods i).proc] 88))))
                  have HEg := Lib.hid (hE2.out.trans (Ext.alloc _ (.cells #[.string (nth (nth g k).methods i).name, .slice aa al ac, .int .i64 (nth (nth g k).methods i).sig.result, .slice ra rl rc, .string (nth (nth g k).methods i).proc] 88)))
                  clear q5 q6
                  rcases (show 20 < (nth (nth g k).methods i).name.size ∨ ((nth (nth g k).methods i).name.size ≤ 20 ∧ 40 < (nth (nth g k).methods i).proc.size) ∨ ((nth (nth g k).methods i).name.size ≤ 20 ∧ (nth (nth g k).methods i).proc.size ≤ 40 ∧ 8 < al) ∨ ((nth (nth g k).methods i).name.size ≤ 20 ∧ (nth (nth g k).methods i).proc.size ≤ 40 ∧ al ≤ 8 ∧ 8 < rl) ∨ ((nth (nth g k).methods i).name.size ≤ 20 ∧ (nth (nth g k).methods i).proc.size ≤ 40 ∧ al ≤ 8 ∧ rl ≤ 8) by omega) with y1 | ⟨y1, y2⟩ | ⟨y1, y2, y3⟩ | ⟨y1, y2, y3, y4⟩ | ⟨y1, y2, y3, y4⟩
                  · go_wp2_with fail
                    go_ret
                    exact ⟨false, rfl, HEf.out, fun h => by cases h⟩
                  · go_wp2_with fail
                    go_ret
                    exact ⟨false, rfl, HEf.out, fun h => by cases h⟩
                  · go_wp2_with fail
                    go_ret
                    exact ⟨false, rfl, HEf.out, fun h => by cases h⟩
                  · go_wp2_with fail
                    go_ret
                    exact ⟨false, rfl, HEf.out, fun h => by cases h⟩
                  · go_wp2_with fail
                    go_roundw
                    case rel => exact ⟨i + 1, by omega, by go_num, HEg⟩
                    case measure => simp [intOf]; omega
                · have HEf := Lib.hid (HEo.out.trans hE2.out)
                  go_wp2_with fail
                  go_roundw
                  case rel => exact ⟨k + 1, by omega, by omega, by go_num, HEf⟩
                  case measure => simp [intOf]; omega
      · rcases (show k = g.length ∨ (k < g.length ∧ k = 24) by omega) with rfl | ⟨hq1, rfl⟩
        · first
          | (exfalso; omega)
          | (go_wp2_with fail
             go_ret
             exact ⟨true, rfl, hE.out, fun _ => h404⟩)
        · first
          | (exfalso; omega)
          | (go_wp2_with fail
             go_ret
             exact ⟨true, rfl, hE.out, fun _ => h404⟩)
end Go.Proofs.YtjffkeoajkhbmaaGreat

namespace Go.Proofs.YtjffkeoajkhbmaaGreat
open Go.RowKit Go.Proofs Go.Shelf
set_option linter.unusedSimpArgs false
def Holds (w : World) (e : Ending) (w' : World) : Prop := e = .returned (.bool true) ∧ Ext w w'
set_option maxRecDepth 100000 in
set_option maxHeartbeats 4000000 in
theorem subNil11 (a b : Int) (s : BA) (w : World) (hs : s.size ≤ 9223372036854775807) : Calls Tryz.prog 11 #[.int .i64 a, .int .i64 b, .string s] w (Holds w) := by
  by_cases h100 : s.size ≤ 100
  · go_enter Tryz.func11, Tryz.ntmps11
    go_wp2_with fail
    refine (belowNil17 _ _ _).mono ?_
    rintro e w1 ⟨rfl, hE⟩
    have HE := Lib.hid hE
    clear hE
    go_wp2_with fail
    refine (aboveNil19 _ _).mono ?_
    rintro e w2 ⟨rfl, hE⟩
    have HE := Lib.hid (HE.out.trans hE)
    clear hE
    go_wp2_with fail
    refine (deriveNil38 _ _ _).mono ?_
    rintro e w3 ⟨rfl, hE⟩
    have HE := Lib.hid (HE.out.trans hE)
    clear hE
    go_wp2_with fail
    refine (checkDeriveNil36 _ _ _ _ _ _).mono ?_
    rintro e w4 ⟨rfl, hE⟩
    have HE := Lib.hid (HE.out.trans hE)
    clear hE
    go_wp2_with fail
    refine (joinNil21 _ _ _).mono ?_
    rintro e w5 ⟨rfl, hE⟩
    have HE := Lib.hid (HE.out.trans hE)
    clear hE
    go_wp2_with fail
    refine (assignNil28 _ _ _).mono ?_
    rintro e w6 ⟨rfl, hE⟩
    have HE := Lib.hid (HE.out.trans hE)
    clear hE
    go_wp2_with fail
    obtain ⟨w7, hw7⟩ : ∃ w7 : World, w7 = w6.alloc (.cells #[.int .u8 0, .int .i64 0, .int .i64 0] 56) := ⟨_, rfl⟩
    obtain ⟨k6, hk6⟩ : ∃ k6, k6 = w6.heap.size := ⟨_, rfl⟩
    rw [← hw7, ← hk6]
    have hE : Ext w6 w7 := by rw [hw7]; exact Ext.alloc _ _
    have HK := Lib.hid (show w7.heap[k6]? = some (.cells #[.int .u8 0, .int .i64 0, .int .i64 0] 56 (0, 0)) from by rw [hw7, hk6]; exact heap_alloc_new _ _)
    have HE := Lib.hid (HE.out.trans hE)
    clear hE hw7 hk6
    refine (lineNil26 _ _).mono ?_
    rintro e w8 ⟨rfl, hE⟩
    have HE := Lib.hid (HE.out.trans hE)
    have HK := Lib.hid ((hE.block _ (row_lt HK.out)).trans HK.out)
    clear hE
    go_wp2_with fail
    refine (fieldNil31 _ _ _).mono ?_
    rintro e w9 ⟨rfl, hE⟩
    have HE := Lib.hid (HE.out.trans hE)
    have HK := Lib.hid ((hE.block _ (row_lt HK.out)).trans HK.out)
    clear hE
    go_wp2_with fail
    refine (methodNil33 _ _ _).mono ?_
    rintro e w10 ⟨rfl, hE⟩
    have HE := Lib.hid (HE.out.trans hE)
    have HK := Lib.hid ((hE.block _ (row_lt HK.out)).trans HK.out)
    clear hE
    go_wp2_with fail
    obtain ⟨w11, hw11⟩ : ∃ w11 : World, w11 = w10.alloc (.cells #[.int .i64 3, .int .i64 3, .int .i64 3, .int .i64 3, .int .i64 3, .int .i64 3, .int .i64 3, .int .i64 3, .int .i64 3] 32) := ⟨_, rfl⟩
    obtain ⟨k10, hk10⟩ : ∃ k10, k10 = w10.heap.size := ⟨_, rfl⟩
    rw [← hw11, ← hk10]
    have hE : Ext w10 w11 := by rw [hw11]; exact Ext.alloc _ _
    have hr : w11.heap[k10]? = some (.cells #[.int .i64 3, .int .i64 3, .int .i64 3, .int .i64 3, .int .i64 3, .int .i64 3, .int .i64 3, .int .i64 3, .int .i64 3] 32 (0, 0)) := by rw [hw11, hk10]; exact heap_alloc_new _ _
    have HE := Lib.hid (HE.out.trans hE)
    have HK := Lib.hid ((hE.block _ (row_lt HK.out)).trans HK.out)
    have hcell : ∀ k, k < 9 → w11.cell? ⟨k10, k, none⟩ = some (.int .i64 3) := fun k hk => by
      rcases (show k = 0 ∨ k = 1 ∨ k = 2 ∨ k = 3 ∨ k = 4 ∨ k = 5 ∨ k = 6 ∨ k = 7 ∨ k = 8 by omega) with rfl | rfl | rfl | rfl | rfl | rfl | rfl | rfl | rfl <;> exact row_cell hr rfl
    have Hcell := Lib.hid hcell
    clear hE hw11 hk10 hr hcell
    go_loop [31] (fun i => ∃ k : Nat, k ≤ 9 ∧ i = .int .i64 k) (fun i => 9 - (intOf i).toNat)
    case atStart => exact ⟨0, by omega, rfl⟩
    case round =>
      obtain ⟨k, hk, rfl⟩ := hrel
      by_cases hlt : k < 9
      · have hc := Hcell.out k hlt
        go_wp2_with fail
        go_round
        case rel => exact ⟨k + 1, by omega, by go_num⟩
        case measure => simp [intOf]; omega
      · go_wp2_with fail
        refine (ordered15 _).mono ?_
        rintro e w12 ⟨rfl, hE⟩
        have hK := (hE.block _ (row_lt HK.out)).trans HK.out
        have HE := Lib.hid (HE.out.trans hE)
        have k0 := row_cell hK (j := 0) rfl
        have k1 := row_cell hK (j := 1) rfl
        have k2 := row_cell hK (j := 2) rfl
        clear hE hK HK Hcell
        go_wp2_with fail
        go_ret
        exact ⟨rfl, HE.out⟩
  · go_enter Tryz.func11, Tryz.ntmps11
    go_wp2_with fail
    refine (ordered15 _).mono ?_
    rintro e w1 ⟨rfl, hE⟩
    have HE := Lib.hid hE
    clear hE
    go_wp2_with fail
    go_ret
    exact ⟨rfl, HE.out⟩
end Go.Proofs.YtjffkeoajkhbmaaGreat

namespace Go.Proofs.YtjffkeoajkhbmaaGreat
open Go.RowKit Go.Proofs Go.Shelf
set_option linter.unusedSimpArgs false
theorem below_val {g : List Ty} {rs : List Reveal} (h : openE g rs = 0) {a b : Nat} (ha : a < g.length) (hb : b < g.length) : ∃ p, belowQ g rs a b = (p, 0) ∧ (p = true ↔ Lies g rs a b) := by
  obtain ⟨h1, h2⟩ := belowQ_iff h ha hb
  exact ⟨_, Prod.ext rfl h1, h2⟩
theorem below_bad {g : List Ty} {rs : List Reveal} {a b : Int} (h : askedR g.length [a, b] = 1) : belowQ g rs a b = (false, 1) := by
  unfold belowQ belowR
  rw [if_neg (by rw [h]; decide)]
theorem mem_common {g : List Ty} {rs : List Reveal} (h : openE g rs = 0) {a b i : Nat} (ha : a < g.length) (hb : b < g.length) : i ∈ commonL g.length (reachL g rs g.length) a b ↔ Lies g rs a i ∧ Lies g rs b i := by
  unfold commonL
  simp only [List.mem_filter, List.mem_range, Bool.and_eq_true, bit_lies h ha, bit_lies h hb]
  exact ⟨fun k => k.2, fun k => ⟨lies_lt h ha k.1, k⟩⟩
structure JoinsAt (g : List Ty) (rs : List Reveal) (a b c : Nat) (bl : Bool) : Prop where
  lt : c < g.length
  join : joinQ g rs a b = ((c : Int), true, 0)
  below : belowQ g rs a b = (bl, 0)
  one : belowQ g rs a c = (true, 0)
  two : belowQ g rs b c = (true, 0)
  least : ∀ d : Nat, d < g.length → ∃ p q r, belowQ g rs a d = (p, 0) ∧ belowQ g rs b d = (q, 0) ∧ belowQ g rs c d = (r, 0) ∧ (p = true → q = true → r = true)
  back : bl = true → belowQ g rs c b = (true, 0)
theorem joins_law {g : List Ty} {rs : List Reveal} (h : openE g rs = 0) {a b : Nat} (ha : a < g.length) (hb : b < g.length) :
    (joinQ g rs a b = (0, false, 0) ∧ belowQ g rs a b = (false, 0)) ∨ ∃ c bl, JoinsAt g rs a b c bl := by
  obtain ⟨bl, e1, e2⟩ := below_val h ha hb
  unfold joinQ joinR
  rw [if_pos (asked_two ha hb)]
  simp only [Int.toNat_natCast]
  cases hj : joinL g.length (reachL g rs g.length) a b with
  | none =>
    refine Or.inl ⟨rfl, ?_⟩
    cases bl
    · exact e1
    · exfalso
      have hl := e2.1 rfl
      unfold joinL at hj
      rw [List.find?_eq_none] at hj
      refine hj b ((mem_common h ha hb).2 ⟨hl, Reach.refl⟩) ?_
      rw [List.all_eq_true]
      intro u hu
      exact (bit_lies h hb).2 ((mem_common h ha hb).1 hu).2
  | some c =>
    have hc := List.mem_of_find?_eq_some hj
    have hall := List.find?_some hj
    have hc2 := (mem_common h ha hb).1 hc
    have hcn := lies_lt h ha hc2.1
    rw [List.all_eq_true] at hall
    have hle : ∀ u, Lies g rs a u → Lies g rs b u → Lies g rs c u := fun u h1 h2 => (bit_lies h hcn).1 (hall u ((mem_common h ha hb).2 ⟨h1, h2⟩))
    have yes : ∀ {x y : Nat}, x < g.length → y < g.length → Lies g rs x y → belowQ g rs x y = (true, 0) := fun hx hy hl => by
      obtain ⟨p, e, k⟩ := below_val h hx hy
      rw [e, k.2 hl]
    refine Or.inr ⟨c, bl, hcn, ?_, e1, yes ha hcn hc2.1, yes hb hcn hc2.2, fun d hd => ?_, fun hbl => yes hcn hb (hle b (e2.1 hbl) Reach.refl)⟩
    · unfold joinQ joinR
      rw [if_pos (asked_two ha hb)]
      simp only [Int.toNat_natCast, hj]
    · obtain ⟨p, p1, p2⟩ := below_val h ha hd
      obtain ⟨q, q1, q2⟩ := below_val h hb hd
      obtain ⟨r, r1, r2⟩ := below_val h hcn hd
      exact ⟨p, q, r, p1, q1, r1, fun hp hq => r2.2 (hle d (p2.1 hp) (q2.1 hq))⟩
theorem join_bad {g : List Ty} {rs : List Reveal} {a b : Int} (h : askedR g.length [a, b] = 1) : joinQ g rs a b = (0, false, 1) := by
  unfold joinQ joinR
  rw [if_neg (by rw [h]; decide)]
theorem i64_nat {n k : Nat} (hk : k < n) (hn : n ≤ 400) : I64 (k : Int) := ⟨by omega, by omega⟩
set_option maxRecDepth 100000 in
set_option maxHeartbeats 4000000 in
theorem subJoins5 (ga : Option Addr) (gn gc : Nat) (g : List Ty) (ra : Option Addr) (rn rc : Nat) (rs : List Reveal) (a b : Int) (w : World) (hg : Graph w (.slice ga gn gc) g) (hre : Reveals w (.slice ra rn rc) rs) (hx : I64 a) (hy : I64 b) :
    Calls Tryz.prog 5 #[.slice ga gn gc, .slice ra rn rc, .int .i64 a, .int .i64 b] w (Holds w) := by
  have Hg := Lib.hid hg
  have Hre := Lib.hid hre
  obtain rfl := SlW.len hg
  have hgb := (SlW.bound hg).2
  have Hx := Lib.hid hx
  have Hy := Lib.hid hy
  clear hg hre hx hy
  go_enter Tryz.func5, Tryz.ntmps5
  go_wp2_with fail
  refine (little13 _ _ _ g w Hg.out).mono ?_
  rintro e w1 ⟨bl, rfl, hE, hl⟩
  have HE := Lib.hid hE
  have Hl := Lib.hid hl
  clear hE hl
  cases bl
  · go_wp2_with fail
    refine (ordered15 _).mono ?_
    rintro e wN ⟨rfl, hE⟩
    have HE := Lib.hid (HE.out.trans hE)
    clear hE
    go_wp2_with fail
    go_ret
    exact ⟨rfl, HE.out⟩
  go_wp2_with fail
  refine (few14 _ _ _ rs w1 (Reveals.mono HE.out Hre.out)).mono ?_
  rintro e w2 ⟨bf, rfl, hE, hf⟩
  have HE := Lib.hid (HE.out.trans hE)
  have Hf := Lib.hid hf
  clear hE hf
  cases bf
  · go_wp2_with fail
    refine (ordered15 _).mono ?_
    rintro e wN ⟨rfl, hE⟩
    have HE := Lib.hid (HE.out.trans hE)
    clear hE
    go_wp2_with fail
    go_ret
    exact ⟨rfl, HE.out⟩
  go_wp2_with fail
  refine (inA _ _ _ g _ _ _ rs w2 (Graph.mono HE.out Hg.out) (Reveals.mono HE.out Hre.out)).mono ?_
  rintro e w3 ⟨hE, (⟨h0, vb, rfl, hA⟩ | ⟨h0, rfl⟩)⟩
  rotate_left
  · have HE := Lib.hid (HE.out.trans hE)
    have hne : ((openE g rs : Int) != 0) = true := by simpa using h0
    clear hE h0
    go_wp2_with fail
    refine (ordered15 _).mono ?_
    rintro e wN ⟨rfl, hE⟩
    have HE := Lib.hid (HE.out.trans hE)
    clear hE
    go_wp2_with fail
    go_ret
    exact ⟨rfl, HE.out⟩
  have HE := Lib.hid (HE.out.trans hE)
  have HA := Lib.hid hA
  have H0 := Lib.hid h0
  clear hE hA h0
  have h400 := (opens H0.out).2.1
  rcases asked01 g.length [a, b] with hk | hk
  rotate_left
  · have hj := Lib.hid (joinV HA.out a b Hx.out Hy.out _ _ _ (join_bad hk))
    have Hk := Lib.hid hk
    clear hk
    go_wp2_with fail
    refine hj.out.mono ?_
    rintro e w4 ⟨rfl, hE⟩
    have HE := Lib.hid (HE.out.trans hE)
    have HA := Lib.hid (HA.out.mono hE)
    clear hE hj
    go_wp2_with fail
    refine (belowV HA.out a b Hx.out Hy.out _ _ (below_bad Hk.out)).mono ?_
    rintro e w5 ⟨rfl, hE⟩
    have HE := Lib.hid (HE.out.trans hE)
    clear hE
    go_wp2_with fail
    refine (ordered15 _).mono ?_
    rintro e wN ⟨rfl, hE⟩
    have HE := Lib.hid (HE.out.trans hE)
    clear hE
    go_wp2_with fail
    go_ret
    exact ⟨rfl, HE.out⟩
  obtain ⟨x, y, rfl, rfl, hx1, hy1⟩ := two_in hk
  clear hk
  rcases joins_law H0.out hx1 hy1 with ⟨hj, hbl⟩ | ⟨c, bl, hJ⟩
  · have Hj := Lib.hid hj
    have Hb := Lib.hid hbl
    clear hj hbl
    go_wp2_with fail
    refine (joinV HA.out x y Hx.out Hy.out _ _ _ Hj.out).mono ?_
    rintro e w4 ⟨rfl, hE⟩
    have HE := Lib.hid (HE.out.trans hE)
    have HA := Lib.hid (HA.out.mono hE)
    clear hE
    go_wp2_with fail
    refine (belowV HA.out x y Hx.out Hy.out _ _ Hb.out).mono ?_
    rintro e w5 ⟨rfl, hE⟩
    have HE := Lib.hid (HE.out.trans hE)
    clear hE
    go_wp2_with fail
    refine (ordered15 _).mono ?_
    rintro e wN ⟨rfl, hE⟩
    have HE := Lib.hid (HE.out.trans hE)
    clear hE
    go_wp2_with fail
    go_ret
    exact ⟨rfl, HE.out⟩
  have HJ := Lib.hid hJ
  have hcn := hJ.lt
  clear hJ
  go_wp2_with fail
  refine (joinV HA.out x y Hx.out Hy.out _ _ _ HJ.out.join).mono ?_
  rintro e w4 ⟨rfl, hE⟩
  have HE := Lib.hid (HE.out.trans hE)
  have HA := Lib.hid (HA.out.mono hE)
  clear hE
  go_wp2_with fail
  refine (belowV HA.out x y Hx.out Hy.out _ _ HJ.out.below).mono ?_
  rintro e w5 ⟨rfl, hE⟩
  have HE := Lib.hid (HE.out.trans hE)
  have HA := Lib.hid (HA.out.mono hE)
  clear hE
  go_wp2_with fail
  refine (belowV HA.out x c Hx.out (i64_nat hcn h400) _ _ HJ.out.one).mono ?_
  rintro e w6 ⟨rfl, hE⟩
  have HE := Lib.hid (HE.out.trans hE)
  have HA := Lib.hid (HA.out.mono hE)
  clear hE
  go_wp2_with fail
  refine (belowV HA.out y c Hy.out (i64_nat hcn h400) _ _ HJ.out.two).mono ?_
  rintro e w7 ⟨rfl, hE⟩
  have HE := Lib.hid (HE.out.trans hE)
  have HA := Lib.hid (HA.out.mono hE)
  clear hE
  go_wp2_with fail
  go_loopw [20] (fun i wr => ∃ k : Nat, k ≤ g.length ∧ i = .int .i64 k ∧ Hid (Ext w wr ∧ EnvA wr vb g rs)) (fun i _ => g.length - (intOf i).toNat)
  case atStart => exact ⟨0, Nat.zero_le _, rfl, Lib.hid ⟨HE.out, HA.out⟩⟩
  case round =>
    clear HE HA
    obtain ⟨k, hk, rfl, hH⟩ := hrel
    have HE := Lib.hid hH.out.1
    have HA := Lib.hid hH.out.2
    clear hH
    by_cases hlt : k < g.length
    · obtain ⟨p, q, r, hp, hq, hr, hpq⟩ := HJ.out.least k hlt
      have Hp := Lib.hid hp
      have Hq := Lib.hid hq
      have Hr := Lib.hid hr
      clear hp hq hr
      go_wp2_with fail
      refine (belowV HA.out x k Hx.out (i64_nat hlt h400) _ _ Hp.out).mono ?_
      rintro e w8 ⟨rfl, hE⟩
      have HE := Lib.hid (HE.out.trans hE)
      have HA := Lib.hid (HA.out.mono hE)
      clear hE
      go_wp2_with fail
      refine (belowV HA.out y k Hy.out (i64_nat hlt h400) _ _ Hq.out).mono ?_
      rintro e w9 ⟨rfl, hE⟩
      have HE := Lib.hid (HE.out.trans hE)
      have HA := Lib.hid (HA.out.mono hE)
      clear hE
      go_wp2_with fail
      refine (belowV HA.out c k (i64_nat hcn h400) (i64_nat hlt h400) _ _ Hr.out).mono ?_
      rintro e w10 ⟨rfl, hE⟩
      have HE := Lib.hid (HE.out.trans hE)
      have HA := Lib.hid (HA.out.mono hE)
      clear hE Hp Hq Hr
      cases p <;> cases q <;> cases r
      all_goals try (exact absurd (hpq rfl rfl) (by decide))
      all_goals
        clear hpq
        go_wp2_with fail
        go_roundw
        case rel => exact ⟨k + 1, by omega, by go_num, Lib.hid ⟨HE.out, HA.out⟩⟩
        case measure => simp [intOf]; omega
    · cases bl
      · go_wp2_with fail
        refine (ordered15 _).mono ?_
        rintro e wN ⟨rfl, hE⟩
        have HE := Lib.hid (HE.out.trans hE)
        clear hE
        go_wp2_with fail
        go_ret
        exact ⟨rfl, HE.out⟩
      · go_wp2_with fail
        refine (belowV HA.out c y (i64_nat hcn h400) Hy.out _ _ (HJ.out.back rfl)).mono ?_
        rintro e w8 ⟨rfl, hE⟩
        have HE := Lib.hid (HE.out.trans hE)
        clear hE
        go_wp2_with fail
        refine (ordered15 _).mono ?_
        rintro e wN ⟨rfl, hE⟩
        have HE := Lib.hid (HE.out.trans hE)
        clear hE
        go_wp2_with fail
        go_ret
        exact ⟨rfl, HE.out⟩
end Go.Proofs.YtjffkeoajkhbmaaGreat
