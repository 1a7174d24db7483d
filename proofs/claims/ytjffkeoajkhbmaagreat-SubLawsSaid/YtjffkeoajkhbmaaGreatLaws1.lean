/- The law SubAssignable: in plain Lean, and walked. Lists whose cells lie in a block of the call's own; a list appended to such a one. -/
import Derived.Deep.Upon
import Derived.Laws.OwnMore
import Derived.Maps.AppendAt
import Derived.ProofKit
import Derived.Test.YtjffkeoajkhbmaaGreatLaws0
import Derived.Test.YtjffkeoajkhbmaaGreatM0
namespace Go.Proofs.YtjffkeoajkhbmaaGreat
open Go.RowKit Go.Proofs Go.Shelf
set_option linter.unusedSimpArgs false
theorem assign_bad {g : List Ty} {rs : List Reveal} {a b : Int} (h : askedR g.length [a, b] = 1) : assignQ g rs a b = (0, 0, 0, 1) := by
  unfold assignQ assignR
  rw [if_neg (by rw [h]; decide)]
theorem asked_swap {n : Nat} {a b : Int} {k : Int} (h : askedR n [a, b] = k) : askedR n [b, a] = k := by
  rw [← h]; unfold askedR; simp only [List.any_cons, List.any_nil, Bool.or_false]; rw [Bool.or_comm]
theorem wordR_ok {g : List Ty} {rs : List Reveal} (h : openE g rs = 0) {a : Nat} (ha : a < g.length) : wordR g a = (isWordB (nth g a).kind, 0) := by
  obtain ⟨h0, h400, h60, hr, hbad⟩ := opens h
  unfold wordR
  rw [if_pos h0, if_pos (hasI_iff.2 (by omega))]
  have := right_kind (hr a ha)
  simp only [Int.toNat_natCast, Prod.mk.injEq, and_true]
  unfold isWordB
  rw [Bool.eq_iff_iff]
  simp only [Bool.and_eq_true, decide_eq_true_eq, Bool.or_eq_true, beq_iff_eq]
  omega
theorem wordV {W : World} {a : Option Addr} {n c : Nat} {g : List Ty} (hg : Graph W (.slice a n c) g) (x : Int) (hx : I64 x) (r : Bool) (k : Int) (hq : wordR g x = (r, k)) :
    Calls Tryz.prog 29 #[.slice a n c, .int .i64 x] W fun e w' => e = .returned (.tuple #[.bool r, .int .i64 k]) ∧ Ext W w' := by have := word29 a n c g x W hg hx; rw [hq] at this; exact this
inductive AssignsAt (g : List Ty) (rs : List Reveal) (a b : Nat) : Prop
  | free (one two above : Bool) (q : assignQ g rs a b = (1, 0, 0, 0)) (below : belowQ g rs b a = (true, 0)) (ab : belowQ g rs a b = (above, 0)) (o : wordR g a = (one, 0)) (t : wordR g b = (two, 0))
  | range (above : Bool) (q : assignQ g rs a b = (2, (nth g a).low, (nth g a).high, 0)) (k : (nth g a).kind = 3) (below : belowQ g rs b a = (false, 0)) (ab : belowQ g rs a b = (above, 0)) (o : wordR g a = (true, 0)) (t : wordR g b = (true, 0))
  | narrow (q : assignQ g rs a b = (3, 0, 0, 0)) (below : belowQ g rs b a = (false, 0)) (ab : belowQ g rs a b = (true, 0)) (o : wordR g a = (false, 0)) (t : wordR g b = (false, 0))
  | none (one two above : Bool) (q : assignQ g rs a b = (0, 0, 0, 41)) (below : belowQ g rs b a = (false, 0)) (ab : belowQ g rs a b = (above, 0)) (o : wordR g a = (one, 0)) (t : wordR g b = (two, 0)) (no : one = false → above = false)
theorem AsBox.newv (w : World) (k l h : Int) : AsBox (w.alloc (.cells #[.int .u8 k, .int .i64 l, .int .i64 h] 56)) w.heap.size k l h := heap_alloc_new w _
theorem spanR_kind {t : Ty} (h : (spanR t).2.2 = true) : t.kind = 1 ∨ (t.kind = 3 ∧ spanR t = (t.low, t.high, true)) := by
  unfold spanR at h ⊢
  split at h
  · exact Or.inl (by assumption)
  · split at h
    · rename_i h1 h3
      exact Or.inr ⟨h3, by rw [if_neg h1, if_pos h3]⟩
    · cases h
theorem assigns_law {g : List Ty} {rs : List Reveal} (h : openE g rs = 0) {a b : Nat} (ha : a < g.length) (hb : b < g.length) : AssignsAt g rs a b := by
  obtain ⟨h0, h400, h60, hr, hbad⟩ := opens h
  obtain ⟨bl, b1, b2⟩ := below_val h hb ha
  obtain ⟨ab, a1, a2⟩ := below_val h ha hb
  have o := wordR_ok h ha
  have t := wordR_ok h hb
  have e0 : assignQ g rs a b = assignQ g rs a b := rfl
  conv at e0 => rhs; unfold assignQ assignR
  rw [if_pos (asked_two ha hb)] at e0
  simp only [Int.toNat_natCast] at e0
  cases hbl : bl with
  | true =>
    subst hbl
    rw [if_pos ((bit_lies h hb).2 (b2.1 rfl))] at e0
    exact .free _ _ _ e0 b1 a1 o t
  | false =>
    subst hbl
    have hn : ¬ Lies g rs b a := fun hl => by have := b2.2 hl; cases this
    rw [if_neg (fun k => hn ((bit_lies h hb).1 k))] at e0
    split at e0
    · rename_i hs
      simp only [Bool.and_eq_true, decide_eq_true_eq] at hs
      have ka := spanR_kind hs.1.1.1
      have kb := spanR_kind hs.1.1.2
      have wa : isWordB (nth g a).kind = true := by rcases ka with k | k <;> simp [k, isWordB]
      have wb : isWordB (nth g b).kind = true := by rcases kb with k | k <;> simp [k, isWordB]
      rcases ka with k | ⟨k, k2⟩
      · exact absurd (number_lies h hb ha k (by rcases kb with k | k; exact Or.inl k; exact Or.inr k.1)) hn
      · rw [k2] at e0
        exact .range _ e0 k b1 a1 (by rw [o, wa]) (by rw [t, wb])
    · rename_i hs
      split at e0
      · rename_i hs2
        simp only [Bool.and_eq_true, Bool.not_eq_true'] at hs2
        have hl : ab = true := a2.2 ((bit_lies h ha).1 hs2.2)
        exact .narrow e0 b1 (by rw [a1, hl]) (by rw [o, hs2.1.1]) (by rw [t, hs2.1.2])
      · rename_i hs2
        refine .none _ _ _ e0 b1 a1 o t (fun h1 => ?_)
        cases hab : ab with
        | false => rfl
        | true =>
          exfalso
          have hl := a2.1 hab
          refine hs2 ?_
          rw [h1, ← lies_word h ha hl, h1, (bit_lies h ha).2 hl]
          rfl
set_option maxRecDepth 100000 in
set_option maxHeartbeats 4000000 in
theorem subAssignable7 (ga : Option Addr) (gn gc : Nat) (g : List Ty) (ra : Option Addr) (rn rc : Nat) (rs : List Reveal) (a b : Int) (w : World) (hg : Graph w (.slice ga gn gc) g) (hre : Reveals w (.slice ra rn rc) rs) (hx : I64 a) (hy : I64 b) :
    Calls Tryz.prog 7 #[.slice ga gn gc, .slice ra rn rc, .int .i64 a, .int .i64 b] w (Holds w) := by
  have Hg := Lib.hid hg
  have Hre := Lib.hid hre
  obtain rfl := SlW.len hg
  have hgb := (SlW.bound hg).2
  have Hx := Lib.hid hx
  have Hy := Lib.hid hy
  clear hg hre hx hy
  go_enter Tryz.func7, Tryz.ntmps7
  go_wp2_with fail
  refine (little13 _ _ _ g w Hg.out).mono ?_
  rintro e w1 ⟨bl, rfl, hE, hl⟩
  have HE := Lib.hid hE
  have Hl := Lib.hid hl
  clear hE hl
  cases bl
  · go_wp2_with fail
    refine (ordered15 _).mono ?_
    rintro e wN ⟨rfl, hE⟩
    have HE := Lib.hid (HE.out.trans hE)
    clear hE
    go_wp2_with fail
    go_ret
    exact ⟨rfl, HE.out⟩
  go_wp2_with fail
  refine (few14 _ _ _ rs w1 (Reveals.mono HE.out Hre.out)).mono ?_
  rintro e w2 ⟨bf, rfl, hE, hf⟩
  have HE := Lib.hid (HE.out.trans hE)
  have Hf := Lib.hid hf
  clear hE hf
  cases bf
  · go_wp2_with fail
    refine (ordered15 _).mono ?_
    rintro e wN ⟨rfl, hE⟩
    have HE := Lib.hid (HE.out.trans hE)
    clear hE
    go_wp2_with fail
    go_ret
    exact ⟨rfl, HE.out⟩
  go_wp2_with fail
  refine (inA _ _ _ g _ _ _ rs w2 (Graph.mono HE.out Hg.out) (Reveals.mono HE.out Hre.out)).mono ?_
  rintro e w3 ⟨hE, (⟨h0, vb, rfl, hA⟩ | ⟨h0, rfl⟩)⟩
  rotate_left
  · have HE := Lib.hid (HE.out.trans hE)
    have hne : ((openE g rs : Int) != 0) = true := by simpa using h0
    clear hE h0
    go_wp2_with fail
    refine (ordered15 _).mono ?_
    rintro e wN ⟨rfl, hE⟩
    have HE := Lib.hid (HE.out.trans hE)
    clear hE
    go_wp2_with fail
    go_ret
    exact ⟨rfl, HE.out⟩
  have HE := Lib.hid (HE.out.trans hE)
  have HA := Lib.hid hA
  have H0 := Lib.hid h0
  clear hE hA h0
  have h400 := (opens H0.out).2.1
  rcases asked01 g.length [a, b] with hk | hk
  rotate_left
  · have Hq := Lib.hid (assign_bad (rs := rs) hk)
    have Hb := Lib.hid (below_bad (rs := rs) (asked_swap hk))
    have Hab := Lib.hid (below_bad (rs := rs) hk)
    clear hk
    go_wp2_with fail
    refine (assignV HA.out a b Hx.out Hy.out _ _ _ _ Hq.out).mono ?_
    rintro e w4 ⟨rfl, hE⟩
    have HB := Lib.hid (AsBox.newv w4 (0) (0) (0))
    have HE := Lib.hid ((HE.out.trans hE).trans (Ext.alloc w4 (.cells #[.int .u8 (0), .int .i64 (0), .int .i64 (0)] 56)))
    have HA := Lib.hid ((HA.out.mono hE).mono (Ext.alloc w4 (.cells #[.int .u8 (0), .int .i64 (0), .int .i64 (0)] 56)))
    clear hE
    go_wp2_with fail
    refine (belowV HA.out b a Hy.out Hx.out _ _ Hb.out).mono ?_
    rintro e w5 ⟨rfl, hE⟩
    have HB := Lib.hid (HB.out.ext hE)
    have HE := Lib.hid (HE.out.trans hE)
    have HA := Lib.hid (HA.out.mono hE)
    clear hE
    go_wp2_with fail
    refine (belowV HA.out a b Hx.out Hy.out _ _ Hab.out).mono ?_
    rintro e w6 ⟨rfl, hE⟩
    have HB := Lib.hid (HB.out.ext hE)
    have HE := Lib.hid (HE.out.trans hE)
    have HA := Lib.hid (HA.out.mono hE)
    clear hE
    go_wp2_with fail
    refine (ordered15 _).mono ?_
    rintro e w9 ⟨rfl, hE⟩
    have HB := Lib.hid (HB.out.ext hE)
    have HE := Lib.hid (HE.out.trans hE)
    clear hE
    have c0 := HB.out.cell (j := 0) rfl
    have c1 := HB.out.cell (j := 1) rfl
    have c2 := HB.out.cell (j := 2) rfl
    go_wp2_with fail
    go_ret
    exact ⟨rfl, HE.out⟩
  obtain ⟨x, y, ea, eb, hx1, hy1⟩ := two_in hk
  clear hk
  have hlaw := assigns_law H0.out hx1 hy1
  subst ea eb
  cases hlaw with
  | free one two above q below ab o t =>
    have Hq := Lib.hid q
    have Hb := Lib.hid below
    have Hab := Lib.hid ab
    have Ho := Lib.hid o
    have Ht := Lib.hid t
    clear q below ab o t
    go_wp2_with fail
    refine (assignV HA.out x y Hx.out Hy.out _ _ _ _ Hq.out).mono ?_
    rintro e w4 ⟨rfl, hE⟩
    have HB := Lib.hid (AsBox.newv w4 (1) (0) (0))
    have HE := Lib.hid ((HE.out.trans hE).trans (Ext.alloc w4 (.cells #[.int .u8 (1), .int .i64 (0), .int .i64 (0)] 56)))
    have HA := Lib.hid ((HA.out.mono hE).mono (Ext.alloc w4 (.cells #[.int .u8 (1), .int .i64 (0), .int .i64 (0)] 56)))
    clear hE
    go_wp2_with fail
    refine (belowV HA.out y x Hy.out Hx.out _ _ Hb.out).mono ?_
    rintro e w5 ⟨rfl, hE⟩
    have HB := Lib.hid (HB.out.ext hE)
    have HE := Lib.hid (HE.out.trans hE)
    have HA := Lib.hid (HA.out.mono hE)
    clear hE
    go_wp2_with fail
    refine (belowV HA.out x y Hx.out Hy.out _ _ Hab.out).mono ?_
    rintro e w6 ⟨rfl, hE⟩
    have HB := Lib.hid (HB.out.ext hE)
    have HE := Lib.hid (HE.out.trans hE)
    have HA := Lib.hid (HA.out.mono hE)
    clear hE
    go_wp2_with fail
    refine (wordV (Graph.mono HE.out Hg.out) x Hx.out _ _ Ho.out).mono ?_
    rintro e w7 ⟨rfl, hE⟩
    have HB := Lib.hid (HB.out.ext hE)
    have HE := Lib.hid (HE.out.trans hE)
    have HA := Lib.hid (HA.out.mono hE)
    clear hE
    go_wp2_with fail
    refine (wordV (Graph.mono HE.out Hg.out) y Hy.out _ _ Ht.out).mono ?_
    rintro e w8 ⟨rfl, hE⟩
    have HB := Lib.hid (HB.out.ext hE)
    have HE := Lib.hid (HE.out.trans hE)
    have HA := Lib.hid (HA.out.mono hE)
    clear hE
    have c0 := HB.out.cell (j := 0) rfl
    have c1 := HB.out.cell (j := 1) rfl
    have c2 := HB.out.cell (j := 2) rfl
    go_wp2_with fail
    refine (ordered15 _).mono ?_
    rintro e w9 ⟨rfl, hE⟩
    have HB := Lib.hid (HB.out.ext hE)
    have HE := Lib.hid (HE.out.trans hE)
    clear hE
    have c0 := HB.out.cell (j := 0) rfl
    have c1 := HB.out.cell (j := 1) rfl
    have c2 := HB.out.cell (j := 2) rfl
    go_wp2_with fail
    go_ret
    exact ⟨rfl, HE.out⟩
  | range above q kind below ab o t =>
    have Hq := Lib.hid q
    have Hb := Lib.hid below
    have Hab := Lib.hid ab
    have Ho := Lib.hid o
    have Ht := Lib.hid t
    clear q below ab o t
    go_wp2_with fail
    refine (assignV HA.out x y Hx.out Hy.out _ _ _ _ Hq.out).mono ?_
    rintro e w4 ⟨rfl, hE⟩
    have HB := Lib.hid (AsBox.newv w4 (2) ((nth g x).low) ((nth g x).high))
    have HE := Lib.hid ((HE.out.trans hE).trans (Ext.alloc w4 (.cells #[.int .u8 (2), .int .i64 ((nth g x).low), .int .i64 ((nth g x).high)] 56)))
    have HA := Lib.hid ((HA.out.mono hE).mono (Ext.alloc w4 (.cells #[.int .u8 (2), .int .i64 ((nth g x).low), .int .i64 ((nth g x).high)] 56)))
    clear hE
    go_wp2_with fail
    refine (belowV HA.out y x Hy.out Hx.out _ _ Hb.out).mono ?_
    rintro e w5 ⟨rfl, hE⟩
    have HB := Lib.hid (HB.out.ext hE)
    have HE := Lib.hid (HE.out.trans hE)
    have HA := Lib.hid (HA.out.mono hE)
    clear hE
    go_wp2_with fail
    refine (belowV HA.out x y Hx.out Hy.out _ _ Hab.out).mono ?_
    rintro e w6 ⟨rfl, hE⟩
    have HB := Lib.hid (HB.out.ext hE)
    have HE := Lib.hid (HE.out.trans hE)
    have HA := Lib.hid (HA.out.mono hE)
    clear hE
    go_wp2_with fail
    refine (wordV (Graph.mono HE.out Hg.out) x Hx.out _ _ Ho.out).mono ?_
    rintro e w7 ⟨rfl, hE⟩
    have HB := Lib.hid (HB.out.ext hE)
    have HE := Lib.hid (HE.out.trans hE)
    have HA := Lib.hid (HA.out.mono hE)
    clear hE
    go_wp2_with fail
    refine (wordV (Graph.mono HE.out Hg.out) y Hy.out _ _ Ht.out).mono ?_
    rintro e w8 ⟨rfl, hE⟩
    have HB := Lib.hid (HB.out.ext hE)
    have HE := Lib.hid (HE.out.trans hE)
    have HA := Lib.hid (HA.out.mono hE)
    clear hE
    have c0 := HB.out.cell (j := 0) rfl
    go_upto_region 19 with (fail)
    refine wp_region_E 99 (by kernel_rfl) ?_
    change wpE _ _ _ _ _ _ _ _ (World.drew _)
    refine wpE_only (i := 0) rfl (by kernel_rfl) (by kernel_rfl) (fun K hK => ?_)
    go_simp
    refine (ordered15 _).mono ?_
    rintro e w9 ⟨rfl, hE⟩
    have HB := Lib.hid ((HB.out.ext (Ext.drew _)).ext hE)
    have HE := Lib.hid ((HE.out.trans (Ext.drew _)).trans hE)
    refine hK _ _ (hE) ?_; clear hK K
    clear hE c0
    have c1 := HB.out.cell (j := 1) rfl
    have c2 := HB.out.cell (j := 2) rfl
    obtain ⟨tb, tof, pa, pl, pc, ma, ml, mc, oa, ol, oc, hsl, hlt2, hT⟩ := Graph.at (Graph.mono HE.out Hg.out) hx1
    have t0 := hT.c0
    have t1 := hT.c1
    have t2 := hT.c2
    rw [kind] at t0
    cases hsl
    clear hT
    refine tE (i := 1) (v := ?_) (fun w9 hE => ?_) ?_
    rotate_left
    · clear hE; first | (go_simp; done) | (go_simp; with_reducible rfl)
    simp only [Act.put, nm]
    refine tE (i := 2) (v := ?_) (fun w9 hE => ?_) ?_
    rotate_left
    · clear hE; first | (go_simp; done) | (go_simp; with_reducible rfl)
    simp only [Act.put, nm]
    refine tE (i := 3) (v := ?_) (fun w9 hE => ?_) ?_
    rotate_left
    · clear hE; first | (go_simp; done) | (go_simp; with_reducible rfl)
    simp only [Act.put, nm]
    refine tE (i := 4) (v := ?_) (fun w9 hE => ?_) ?_
    rotate_left
    · clear hE; first | (go_simp; done) | (go_simp; with_reducible rfl)
    simp only [Act.put, nm]
    refine tE (i := 5) (v := ?_) (fun w9 hE => ?_) ?_
    rotate_left
    · clear hE; first | (go_simp; done) | (go_simp; with_reducible rfl)
    simp only [Act.put, nm]
    refine tE (i := 6) (v := ?_) (fun w9 hE => ?_) ?_
    rotate_left
    · clear hE; first | (go_simp; done) | (go_simp; with_reducible rfl)
    simp only [Act.put, nm]
    refine tE (i := 7) (v := ?_) (fun w9 hE => ?_) ?_
    rotate_left
    · clear hE; first | (go_simp; done) | (go_simp; with_reducible rfl)
    simp only [Act.put, nm]
    refine tE (i := 8) (v := ?_) (fun w9 hE => ?_) ?_
    rotate_left
    · clear hE; first | (go_simp; done) | (go_simp; with_reducible rfl)
    simp only [Act.put, nm]
    refine tE (i := 9) (v := ?_) (fun w9 hE => ?_) ?_
    rotate_left
    · clear hE; first | (go_simp; done) | (go_simp; with_reducible rfl)
    simp only [Act.put, nm]
    refine tE (i := 10) (v := ?_) (fun w9 hE => ?_) ?_
    rotate_left
    · clear hE; first | (go_simp; done) | (go_simp; with_reducible rfl)
    simp only [Act.put, nm]
    refine tE (i := 11) (v := ?_) (fun w9 hE => ?_) ?_
    rotate_left
    · clear hE; first | (go_simp; done) | (go_simp; with_reducible rfl)
    simp only [Act.put, nm]
    refine tE (i := 12) (v := ?_) (fun w9 hE => ?_) ?_
    rotate_left
    · clear hE; first | (go_simp; done) | (go_simp; with_reducible rfl)
    simp only [Act.put, nm]
    refine tE (i := 13) (v := ?_) (fun w9 hE => ?_) ?_
    rotate_left
    · clear hE; first | (go_simp; done) | (go_simp; with_reducible rfl)
    simp only [Act.put, nm]
    refine tE (i := 14) (v := ?_) (fun w9 hE => ?_) ?_
    rotate_left
    · clear hE; first | (go_simp; done) | (go_simp; with_reducible rfl)
    simp only [Act.put, nm]
    refine tE (i := 15) (v := ?_) (fun w9 hE => ?_) ?_
    rotate_left
    · clear hE; first | (go_simp; done) | (go_simp; with_reducible rfl)
    simp only [Act.put, nm]
    refine tE (i := 16) (v := ?_) (fun w9 hE => ?_) ?_
    rotate_left
    · clear hE; first | (go_simp; done) | (go_simp; with_reducible rfl)
    simp only [Act.put, nm]
    refine tE (i := 17) (v := ?_) (fun w9 hE => ?_) ?_
    rotate_left
    · clear hE; first | (go_simp; done) | (go_simp; with_reducible rfl)
    simp only [Act.put, nm]
    refine tE (i := 18) (v := ?_) (fun w9 hE => ?_) ?_
    rotate_left
    · clear hE; first | (go_simp; done) | (go_simp; with_reducible rfl)
    simp only [Act.put, nm]
    refine tE (i := 19) (v := ?_) (fun w9 hE => ?_) ?_
    rotate_left
    · clear hE; first | (go_simp; done) | (go_simp; with_reducible rfl)
    simp only [Act.put, nm]
    refine tE (i := 20) (v := ?_) (fun w9 hE => ?_) ?_
    rotate_left
    · have t0E := hE.cell t0; clear hE; first | (go_simp; done) | (go_simp; with_reducible rfl)
    simp only [Act.put, nm]
    refine tE (i := 21) (v := ?_) (fun w9 hE => ?_) ?_
    rotate_left
    · clear hE; first | (go_simp; done) | (go_simp; with_reducible rfl)
    simp only [Act.put, nm]
    refine tE (i := 22) (v := ?_) (fun w9 hE => ?_) ?_
    rotate_left
    · clear hE; first | (go_simp; done) | (go_simp; with_reducible rfl)
    simp only [Act.put, nm]
    refine tE (i := 23) (v := ?_) (fun w9 hE => ?_) ?_
    rotate_left
    · clear hE; first | (go_simp; done) | (go_simp; with_reducible rfl)
    simp only [Act.put, nm]
    refine tE (i := 24) (v := ?_) (fun w9 hE => ?_) ?_
    rotate_left
    · clear hE; first | (go_simp; done) | (go_simp; with_reducible rfl)
    simp only [Act.put, nm]
    refine tE (i := 25) (v := ?_) (fun w9 hE => ?_) ?_
    rotate_left
    · have c1E := hE.cell c1; clear hE; first | (go_simp; done) | (go_simp; with_reducible rfl)
    simp only [Act.put, nm]
    refine tE (i := 26) (v := ?_) (fun w9 hE => ?_) ?_
    rotate_left
    · clear hE; first | (go_simp; done) | (go_simp; with_reducible rfl)
    simp only [Act.put, nm]
    refine tE (i := 27) (v := ?_) (fun w9 hE => ?_) ?_
    rotate_left
    · clear hE; first | (go_simp; done) | (go_simp; with_reducible rfl)
    simp only [Act.put, nm]
    refine tE (i := 28) (v := ?_) (fun w9 hE => ?_) ?_
    rotate_left
    · clear hE; first | (go_simp; done) | (go_simp; with_reducible rfl)
    simp only [Act.put, nm]
    refine tE (i := 29) (v := ?_) (fun w9 hE => ?_) ?_
    rotate_left
    · clear hE; first | (go_simp; done) | (go_simp; with_reducible rfl)
    simp only [Act.put, nm]
    refine tE (i := 30) (v := ?_) (fun w9 hE => ?_) ?_
    rotate_left
    · have t1E := hE.cell t1; clear hE; first | (go_simp; done) | (go_simp; with_reducible rfl)
    simp only [Act.put, nm]
    refine tE (i := 31) (v := ?_) (fun w9 hE => ?_) ?_
    rotate_left
    · clear hE; first | (go_simp; done) | (go_simp; with_reducible rfl)
    simp only [Act.put, nm]
    refine tE (i := 32) (v := ?_) (fun w9 hE => ?_) ?_
    rotate_left
    · clear hE; first | (go_simp; done) | (go_simp; with_reducible rfl)
    simp only [Act.put, nm]
    refine tE (i := 33) (v := ?_) (fun w9 hE => ?_) ?_
    rotate_left
    · clear hE; first | (go_simp; done) | (go_simp; with_reducible rfl)
    simp only [Act.put, nm]
    refine tE (i := 34) (v := ?_) (fun w9 hE => ?_) ?_
    rotate_left
    · clear hE; first | (go_simp; done) | (go_simp; with_reducible rfl)
    simp only [Act.put, nm]
    refine tE (i := 35) (v := ?_) (fun w9 hE => ?_) ?_
    rotate_left
    · have c2E := hE.cell c2; clear hE; first | (go_simp; done) | (go_simp; with_reducible rfl)
    simp only [Act.put, nm]
    refine tE (i := 36) (v := ?_) (fun w9 hE => ?_) ?_
    rotate_left
    · clear hE; first | (go_simp; done) | (go_simp; with_reducible rfl)
    simp only [Act.put, nm]
    refine tE (i := 37) (v := ?_) (fun w9 hE => ?_) ?_
    rotate_left
    · clear hE; first | (go_simp; done) | (go_simp; with_reducible rfl)
    simp only [Act.put, nm]
    refine tE (i := 38) (v := ?_) (fun w9 hE => ?_) ?_
    rotate_left
    · clear hE; first | (go_simp; done) | (go_simp; with_reducible rfl)
    simp only [Act.put, nm]
    refine tE (i := 39) (v := ?_) (fun w9 hE => ?_) ?_
    rotate_left
    · clear hE; first | (go_simp; done) | (go_simp; with_reducible rfl)
    simp only [Act.put, nm]
    refine tE (i := 40) (v := ?_) (fun w9 hE => ?_) ?_
    rotate_left
    · have t2E := hE.cell t2; clear hE; first | (go_simp; done) | (go_simp; with_reducible rfl)
    simp only [Act.put, nm]
    refine tE (i := 41) (v := ?_) (fun w9 hE => ?_) ?_
    rotate_left
    · clear hE; first | (go_simp; done) | (go_simp; with_reducible rfl)
    simp only [Act.put, nm]
    refine tE (i := 42) (v := ?_) (fun w9 hE => ?_) ?_
    rotate_left
    · clear hE; first | (go_simp; done) | (go_simp; with_reducible rfl)
    simp only [Act.put, nm]
    refine tE (i := 43) (v := ?_) (fun w9 hE => ?_) ?_
    rotate_left
    · clear hE; first | (go_simp; done) | (go_simp; with_reducible rfl)
    simp only [Act.put, nm]
    refine wpE_done (by kernel_rfl) (by kernel_rfl) ?_
    go_wp2_with fail
    go_ret
    exact ⟨rfl, HE.out⟩
  | narrow q below ab o t =>
    have Hq := Lib.hid q
    have Hb := Lib.hid below
    have Hab := Lib.hid ab
    have Ho := Lib.hid o
    have Ht := Lib.hid t
    clear q below ab o t
    go_wp2_with fail
    refine (assignV HA.out x y Hx.out Hy.out _ _ _ _ Hq.out).mono ?_
    rintro e w4 ⟨rfl, hE⟩
    have HB := Lib.hid (AsBox.newv w4 (3) (0) (0))
    have HE := Lib.hid ((HE.out.trans hE).trans (Ext.alloc w4 (.cells #[.int .u8 (3), .int .i64 (0), .int .i64 (0)] 56)))
    have HA := Lib.hid ((HA.out.mono hE).mono (Ext.alloc w4 (.cells #[.int .u8 (3), .int .i64 (0), .int .i64 (0)] 56)))
    clear hE
    go_wp2_with fail
    refine (belowV HA.out y x Hy.out Hx.out _ _ Hb.out).mono ?_
    rintro e w5 ⟨rfl, hE⟩
    have HB := Lib.hid (HB.out.ext hE)
    have HE := Lib.hid (HE.out.trans hE)
    have HA := Lib.hid (HA.out.mono hE)
    clear hE
    go_wp2_with fail
    refine (belowV HA.out x y Hx.out Hy.out _ _ Hab.out).mono ?_
    rintro e w6 ⟨rfl, hE⟩
    have HB := Lib.hid (HB.out.ext hE)
    have HE := Lib.hid (HE.out.trans hE)
    have HA := Lib.hid (HA.out.mono hE)
    clear hE
    go_wp2_with fail
    refine (wordV (Graph.mono HE.out Hg.out) x Hx.out _ _ Ho.out).mono ?_
    rintro e w7 ⟨rfl, hE⟩
    have HB := Lib.hid (HB.out.ext hE)
    have HE := Lib.hid (HE.out.trans hE)
    have HA := Lib.hid (HA.out.mono hE)
    clear hE
    go_wp2_with fail
    refine (wordV (Graph.mono HE.out Hg.out) y Hy.out _ _ Ht.out).mono ?_
    rintro e w8 ⟨rfl, hE⟩
    have HB := Lib.hid (HB.out.ext hE)
    have HE := Lib.hid (HE.out.trans hE)
    have HA := Lib.hid (HA.out.mono hE)
    clear hE
    have c0 := HB.out.cell (j := 0) rfl
    have c1 := HB.out.cell (j := 1) rfl
    have c2 := HB.out.cell (j := 2) rfl
    go_wp2_with fail
    refine (ordered15 _).mono ?_
    rintro e w9 ⟨rfl, hE⟩
    have HB := Lib.hid (HB.out.ext hE)
    have HE := Lib.hid (HE.out.trans hE)
    clear hE
    have c0 := HB.out.cell (j := 0) rfl
    have c1 := HB.out.cell (j := 1) rfl
    have c2 := HB.out.cell (j := 2) rfl
    go_wp2_with fail
    go_ret
    exact ⟨rfl, HE.out⟩
  | none one two above q below ab o t no =>
    have Hq := Lib.hid q
    have Hb := Lib.hid below
    have Hab := Lib.hid ab
    have Ho := Lib.hid o
    have Ht := Lib.hid t
    clear q below ab o t
    go_wp2_with fail
    refine (assignV HA.out x y Hx.out Hy.out _ _ _ _ Hq.out).mono ?_
    rintro e w4 ⟨rfl, hE⟩
    have HB := Lib.hid (AsBox.newv w4 (0) (0) (0))
    have HE := Lib.hid ((HE.out.trans hE).trans (Ext.alloc w4 (.cells #[.int .u8 (0), .int .i64 (0), .int .i64 (0)] 56)))
    have HA := Lib.hid ((HA.out.mono hE).mono (Ext.alloc w4 (.cells #[.int .u8 (0), .int .i64 (0), .int .i64 (0)] 56)))
    clear hE
    go_wp2_with fail
    refine (belowV HA.out y x Hy.out Hx.out _ _ Hb.out).mono ?_
    rintro e w5 ⟨rfl, hE⟩
    have HB := Lib.hid (HB.out.ext hE)
    have HE := Lib.hid (HE.out.trans hE)
    have HA := Lib.hid (HA.out.mono hE)
    clear hE
    go_wp2_with fail
    refine (belowV HA.out x y Hx.out Hy.out _ _ Hab.out).mono ?_
    rintro e w6 ⟨rfl, hE⟩
    have HB := Lib.hid (HB.out.ext hE)
    have HE := Lib.hid (HE.out.trans hE)
    have HA := Lib.hid (HA.out.mono hE)
    clear hE
    go_wp2_with fail
    refine (wordV (Graph.mono HE.out Hg.out) x Hx.out _ _ Ho.out).mono ?_
    rintro e w7 ⟨rfl, hE⟩
    have HB := Lib.hid (HB.out.ext hE)
    have HE := Lib.hid (HE.out.trans hE)
    have HA := Lib.hid (HA.out.mono hE)
    clear hE
    go_wp2_with fail
    refine (wordV (Graph.mono HE.out Hg.out) y Hy.out _ _ Ht.out).mono ?_
    rintro e w8 ⟨rfl, hE⟩
    have HB := Lib.hid (HB.out.ext hE)
    have HE := Lib.hid (HE.out.trans hE)
    have HA := Lib.hid (HA.out.mono hE)
    clear hE
    have c0 := HB.out.cell (j := 0) rfl
    have c1 := HB.out.cell (j := 1) rfl
    have c2 := HB.out.cell (j := 2) rfl
    go_wp2_with fail
    refine (ordered15 _).mono ?_
    rintro e w9 ⟨rfl, hE⟩
    have HB := Lib.hid (HB.out.ext hE)
    have HE := Lib.hid (HE.out.trans hE)
    clear hE
    have c0 := HB.out.cell (j := 0) rfl
    have c1 := HB.out.cell (j := 1) rfl
    have c2 := HB.out.cell (j := 2) rfl
    cases one
    · have hab := no rfl
      subst hab
      go_wp2_with fail
      go_ret
      exact ⟨rfl, HE.out⟩
    go_wp2_with fail
    go_ret
    exact ⟨rfl, HE.out⟩
end Go.Proofs.YtjffkeoajkhbmaaGreat

namespace Go.Proofs.YtjffkeoajkhbmaaGreat
open Go.RowKit Go.Proofs
set_option linter.unusedSimpArgs false
theorem flat_at {sz : Nat} : ∀ {css : List (List Value)} {i : Nat} {cs : List Value} {j : Nat}, (∀ c, c ∈ css → c.length = sz) → css[i]? = some cs → j < sz → css.flatten[i * sz + j]? = cs[j]?
  | c :: css, 0, cs, j, h, hi, hj => by
    have hc := h c (by simp)
    simp only [List.getElem?_cons_zero, Option.some.injEq] at hi
    subst hi
    rw [List.flatten_cons, Nat.zero_mul, Nat.zero_add, List.getElem?_append_left (by omega)]
  | c :: css, i + 1, cs, j, h, hi, hj => by
    have hc := h c (by simp)
    simp only [List.getElem?_cons_succ] at hi
    rw [List.flatten_cons, Nat.succ_mul, List.getElem?_append_right (by omega), ← flat_at (fun c hc => h c (by simp [hc])) hi hj]
    congr 1
    omega
  | [], _, _, _, _, hi, _ => by simp at hi
theorem flat_len {sz : Nat} : ∀ {css : List (List Value)}, (∀ c, c ∈ css → c.length = sz) → css.flatten.length = css.length * sz
  | [], _ => by simp
  | c :: css, h => by
    rw [List.flatten_cons, List.length_append, flat_len (fun c hc => h c (by simp [hc])), h c (by simp), List.length_cons, Nat.succ_mul]
    omega
def OwnL {α : Type} (R : α → List Value → Prop) (e : TypeId) (sz : Nat) (w : World) (base : Nat) (v : Value) (xs : List α) : Prop :=
  ∃ css : List (List Value), css.length = xs.length ∧ (∀ (i : Nat) x cs, xs[i]? = some x → css[i]? = some cs → R x cs) ∧ (∀ c, c ∈ css → c.length = sz) ∧ w.ownsRow base e sz v xs.length css.flatten
section
variable {α : Type} {R : α → List Value → Prop} {e : TypeId} {sz : Nat} {w : World} {base : Nat} {v : Value} {xs ys : List α}
theorem OwnL.slw (h : OwnL R e sz w base v xs) (hb : xs.length * (8 * sz) ≤ maxBytes) : SlW (fun _ => R) sz w v xs := by
  obtain ⟨css, hl, hR, hsz, hown⟩ := h
  have key : ∀ b, v.ownBlock = some b → ∀ (i : Nat) x, xs[i]? = some x → ∃ cs, R x cs ∧ cs.length = sz ∧ ∀ j u, cs[j]? = some u → w.cell? ⟨b, 0 + i * sz + j, none⟩ = some u := fun b hvb i x hi => by
    have hil := (List.getElem?_eq_some_iff.1 hi).1
    obtain ⟨cs, hcs⟩ : ∃ cs, css[i]? = some cs := ⟨_, List.getElem?_eq_getElem (by omega)⟩
    refine ⟨cs, hR i x cs hi hcs, hsz cs (List.mem_of_getElem? hcs), fun j u hj => ?_⟩
    have hjl : j < sz := by have := (List.getElem?_eq_some_iff.1 hj).1; have := hsz cs (List.mem_of_getElem? hcs); omega
    have := hown.cells hvb (i * sz + j) u (by rw [flat_at hsz hcs hjl]; exact hj)
    rw [Addr.add_lit] at this
    rw [Nat.zero_add] at this ⊢
    exact this
  rcases id hown.2 with ⟨rfl, h0⟩ | ⟨g, cap, cur, rfl, _, _, hc, _, _, _⟩
  · have : xs = [] := List.eq_nil_of_length_eq_zero h0
    subst this
    exact SlW.nil _ _ _
  · exact ⟨_, _, rfl, hc, hb, fun i x hi => by
      obtain ⟨cs, k1, k2, k3⟩ := key g rfl i x hi
      exact ⟨g, 0, cs, rfl, k1, k2, k3⟩⟩
theorem OwnL.lt (h : OwnL R e sz w base v xs) : ∀ k, v.ownBlock = some k → base ≤ k ∧ k < w.heap.size := by
  obtain ⟨css, hl, hR, hsz, hown⟩ := h
  exact hown.lt
theorem OwnL.kept {w' : World} {row : Option Nat} (h : OwnL R e sz w base v xs) (hg : w.grownBy w' row) (hne : v.ownBlock = none ∨ v.ownBlock ≠ row) : OwnL R e sz w' base v xs := by
  obtain ⟨css, hl, hR, hsz, hown⟩ := h
  exact ⟨css, hl, hR, hsz, hown.kept hg hne⟩
theorem OwnL.nil (w : World) : OwnL R e sz w base (.slice none 0 0) ([] : List α) := ⟨[], rfl, fun i x cs h => by simp at h, fun c h => by simp at h, World.ownsRow_nil _ _ _ _⟩
theorem OwnL.made (w : World) (cur : Array Value) (cap : Nat) (hb : base ≤ w.heap.size) (hm : cap ≤ maxLen) (hs : cur.size = cap * sz) : OwnL R e sz (w.alloc (.cells cur e)) base (.slice (some ⟨w.heap.size, 0, none⟩) 0 cap) ([] : List α) :=
  ⟨[], rfl, fun i x cs h => by simp at h, fun c h => by simp at h, World.ownsRow_made w cur cap hb hm hs⟩
theorem SlW.flat {a : Addr} {n c : Nat} (h : SlW (fun _ => R) sz w (.slice (some a) n c) xs) : ∃ css : List (List Value), css.length = xs.length ∧ (∀ (i : Nat) x cs, xs[i]? = some x → css[i]? = some cs → R x cs) ∧ (∀ c, c ∈ css → c.length = sz) ∧ ∀ j u, css.flatten[j]? = some u → w.cell? (a.add j) = some u := by
  obtain ⟨a', c', he, hlc, hb, hx⟩ := h
  cases he
  have key : ∀ k, k ≤ xs.length → ∃ css : List (List Value), css.length = k ∧ (∀ (i : Nat) x cs, xs[i]? = some x → css[i]? = some cs → R x cs) ∧ (∀ c, c ∈ css → c.length = sz) ∧ ∀ j u, css.flatten[j]? = some u → w.cell? (a.add j) = some u := by
    intro k
    induction k with
    | zero => exact fun _ => ⟨[], rfl, fun i x cs _ h => by simp at h, fun c h => by simp at h, fun j u h => by simp at h⟩
    | succ k ih =>
      intro hk
      obtain ⟨css, h1, h2, h3, h4⟩ := ih (by omega)
      obtain ⟨x, hi⟩ : ∃ x, xs[k]? = some x := ⟨_, List.getElem?_eq_getElem (by omega)⟩
      obtain ⟨b, off, cs, ha, hr, hl, hc⟩ := hx k x hi
      cases ha
      refine ⟨css ++ [cs], by simp [h1], fun i y ds hy hd => ?_, fun c hc => ?_, fun j u hu => ?_⟩
      · rcases Nat.lt_or_ge i css.length with hlt | hge
        · rw [List.getElem?_append_left hlt] at hd
          exact h2 i y ds hy hd
        · have hil := (List.getElem?_eq_some_iff.1 hd).1
          simp at hil
          have : i = k := by omega
          subst this
          rw [List.getElem?_append_right (by omega), h1] at hd
          simp at hd
          subst hd
          rw [hi] at hy
          cases hy
          exact hr
      · rcases List.mem_append.1 hc with h | h
        · exact h3 c h
        · rw [List.mem_singleton.1 h]; exact hl
      · rw [List.flatten_append] at hu
        have hfl := flat_len h3
        rw [h1] at hfl
        rcases Nat.lt_or_ge j (k * sz) with hlt | hge
        · rw [List.getElem?_append_left (by omega)] at hu
          exact h4 j u hu
        · rw [List.getElem?_append_right (by omega), hfl] at hu
          simp only [List.flatten_cons, List.flatten_nil, List.append_nil] at hu
          have := hc _ u hu
          rw [Addr.add_lit, show off + j = off + k * sz + (j - k * sz) by omega]
          exact this
  exact key xs.length (Nat.le_refl _)
end
theorem run_append_list {P : Program} {α : Type} {R : α → List Value → Prop} {w : World} {xs ys : List α} (base : Nat) (t ty e : TypeId) (i : TypeInfo) (z : Value) (size bytes : Nat) (ht : P.underlying t = some (.slice e)) (hi : P.info? e = some i) (hz : i.zero = some z)
    (hsize : i.size = size) (hby : i.bytes = bytes) (hzs : z.cells.size = size) (hsz : 0 < size) (v x : Value) (hown : OwnL R e size w base v xs) (hx : SlW (fun _ => R) size w x ys) (hone : ∀ y cs, R y cs → ∀ u, u ∈ cs → u.oneCell' = true)
    (h63 : xs.length + ys.length ≤ maxLen) (hbytes : (xs.length + ys.length) * bytes ≤ 140737488355328) (hbase : base ≤ w.heap.size) :
    ∃ v' w', (Builtin.append_ #[t, t] ty #[v, x]).run P w = .ok v' w' ∧ OwnL R e size w' base v' (xs ++ ys) ∧ w.grownBy w' v.ownBlock ∧ (v'.ownBlock = v.ownBlock ∨ v'.ownBlock = some w.heap.size) := by
  obtain ⟨xa, xc, rfl, hxc, hxb, hx1⟩ := id hx
  obtain ⟨css, hl, hR, hcs, hrow⟩ := id hown
  cases xa with
  | none =>
    have h0 : ys = [] := by
      cases ys with
      | nil => rfl
      | cons y ys =>
        obtain ⟨b, off, cs, hn, _⟩ := hx1 0 y rfl
        cases hn
    subst h0
    refine ⟨v, w, ?_, by rw [List.append_nil]; exact hown, ⟨rfl, rfl, rfl, Nat.le_refl _, fun _ _ _ => rfl⟩, Or.inl rfl⟩
    rcases id hrow.2 with ⟨rfl, h0⟩ | ⟨g, cap, cur, rfl, _, _, hc, _, _, _⟩
    · exact run_append_nothing w t t ty e i ht hi none 0 0 (Nat.le_refl _) _ (Src.ofNil w ht xc)
    · exact run_append_nothing w t t ty e i ht hi _ _ cap hc _ (Src.ofNil w ht xc)
  | some ad =>
    obtain ⟨dss, dl, dR, ds, dc⟩ := SlW.flat hx
    have hd1 : ∀ u, u ∈ dss.flatten → u.oneCell' = true := fun u hu => by
      obtain ⟨cs, hc, hu⟩ := List.mem_flatten.1 hu
      obtain ⟨k, hk, hke⟩ := List.mem_iff_getElem.1 hc
      exact hone _ cs (dR k _ cs (List.getElem?_eq_getElem (by omega)) (by rw [List.getElem?_eq_getElem hk, hke])) u hu
    obtain ⟨v', w', hr, h2, h3, h4, h5⟩ := run_append_own_at (P := P) w base t ty e i z size bytes ht hi hz hsize hby hzs hsz v xs.length css.flatten hrow ad ys.length xc dss.flatten (by rw [flat_len ds, dl]) dc hd1 h63 hbytes hbase
    refine ⟨v', w', hr, ⟨css ++ dss, by simp [hl, dl], fun k x cs hk hc => ?_, fun c hc => ?_, ?_⟩, h3, h5⟩
    · rcases Nat.lt_or_ge k xs.length with hlt | hge
      · rw [List.getElem?_append_left (by omega)] at hk hc
        exact hR k x cs hk hc
      · rw [List.getElem?_append_right (by omega)] at hk hc
        rw [hl] at hc
        exact dR _ x cs hk hc
    · rcases List.mem_append.1 hc with h | h
      · exact hcs c h
      · exact ds c h
    · rw [List.flatten_append, List.length_append]
      exact h2
theorem wp_append_list {P : Program} {o : Oper} {a : Act} {w : World} {K : Act → World → Prop} {Q : Exit → Act → World → Prop} {α : Type} {R : α → List Value → Prop} {xs ys : List α} (s x : Operand) (t : TypeId)
    (ho : o.op = .call { callee := .builtin .append, args := #[s, x], argTypes := #[t, t] })
    (base : Nat) (e : TypeId) (i : TypeInfo) (z : Value) (size bytes : Nat) (ht : P.underlying t = some (.slice e)) (hi : P.info? e = some i) (hz : i.zero = some z)
    (hsize : i.size = size) (hby : i.bytes = bytes) (hzs : z.cells.size = size) (hsz : 0 < size)
    (v xv : Value) (hs : a.eval s = v) (hown : OwnL R e size w base v xs) (hx : a.eval x = xv) (hsl : SlW (fun _ => R) size w xv ys) (hone : ∀ y cs, R y cs → ∀ u, u ∈ cs → u.oneCell' = true)
    (h63 : xs.length + ys.length ≤ maxLen) (hbytes : (xs.length + ys.length) * bytes ≤ 140737488355328) (hbase : base ≤ w.heap.size)
    (h : ∀ v' w', OwnL R e size w' base v' (xs ++ ys) → w.grownBy w' v.ownBlock → (v'.ownBlock = v.ownBlock ∨ v'.ownBlock = some w.heap.size) → K (a.put o.dst v') w') :
    o.wp P a w K Q := by
  obtain ⟨v', w', hr, h2, h3, h4⟩ := run_append_list (P := P) base t o.type e i z size bytes ht hi hz hsize hby hzs hsz v xv hown hsl hone h63 hbytes hbase
  unfold Oper.wp execOp
  simp only [ho, resolve, invoke, builtin, Sem.run_bind, Sem.run_pure, Result.andThen_ok, List.map_toArray, List.map_cons, List.map_nil, hs, hx, hr]
  exact h v' w' h2 h3 h4
end Go.Proofs.YtjffkeoajkhbmaaGreat
