/- The rule for what is revealed. The rule for what lies below ROOT and ANY. sub.steps: all steps from a type, yielded. sub.steps, walked. -/
import Derived.Test.YtjffkeoajkhbmaaGreatM0
import Derived.Test.YtjffkeoajkhbmaaGreatM13
import Derived.Test.YtjffkeoajkhbmaaGreatM14
import Derived.Test.YtjffkeoajkhbmaaGreatM15
import Derived.Test.YtjffkeoajkhbmaaGreatM16
namespace Go.Proofs.YtjffkeoajkhbmaaGreat
open Go.RowKit Go.Proofs Go.Shelf
set_option linter.unusedSimpArgs false
attribute [local go_sem] Oper.semAt_some
def revealL (g : List Ty) (rs : List Reveal) (t : Nat) : List Stp := if (nth g t).kind = 13 then (byN rs rs.length (nth g t).opq).map fun i => ⟨5, (nth rs i).type.toNat, i⟩ else []
def revTo (rs : List Reveal) (L : List Nat) (k : Nat) : List Stp := (L.take k).map fun i => ⟨5, (nth rs i).type.toNat, i⟩
theorem revTo_succ {rs : List Reveal} {L : List Nat} {k : Nat} (hk : k < L.length) : revTo rs L (k + 1) = revTo rs L k ++ [⟨5, (nth rs (nth L k)).type.toNat, nth L k⟩] := by unfold revTo; rw [take_snoc hk]; simp
theorem revTo_all (rs : List Reveal) (L : List Nat) : revTo rs L L.length = L.map fun i => ⟨5, (nth rs i).type.toNat, i⟩ := by unfold revTo; rw [List.take_length]
theorem revTo_prefix (rs : List Reveal) (L : List Nat) (k : Nat) : revTo rs L k <+: L.map fun i => ⟨5, (nth rs i).type.toNat, i⟩ := by
  unfold revTo
  conv => rhs; rw [← List.take_append_drop k L, List.map_append]
  exact List.prefix_append _ _
theorem revTo_len (rs : List Reveal) (L : List Nat) (k : Nat) : (revTo rs L k).length ≤ L.length := by unfold revTo; simp; omega
set_option maxRecDepth 100000 in
set_option maxHeartbeats 2000000 in
theorem reveal142 {N NN nV l : Nat} {w0 : World} {foot : World → Nat → Prop} {J Jx : List Stp → World → Prop} (X : YCtx N NN nV l w0 foot J Jx) (m vb : Nat) (g : List Ty) (C : Nat → Nat) (rs : List Reveal) (S : List Nat) (gv cv rv av : Value) (hv : EnvW w0 vb g C rs S gv cv rv av)
    (mb : Nat) (mm : List (BA × Value)) (hby : ByAt w0 vb rs mb mm) (hnV : g.length ≤ nV) (hr60 : rs.length ≤ 60) (hrt : ∀ i, i < rs.length → 0 ≤ (nth rs i).type ∧ (nth rs i).type < g.length) (t : Nat) (ht : t < g.length)
    (pre : List Stp) (hlen : pre.length + 100 ≤ NN) (W : World) (hE : Ext w0 W) (hN : N ≤ W.heap.size) (h0 : J pre W) :
    CallsIn Fence.wide m Tryz.prog 142 #[.pointer (some ⟨vb, 0, none⟩), .int .i64 t, .func (.yield l) #[] #[]] W (YPost w0.heap.size foot J Jx pre (revealL g rs t) W) := by
  obtain ⟨ga, gc, rfl, -⟩ := id hv.gr
  obtain ⟨ra, rc, rfl, -⟩ := id hv.re
  have hb := (SlW.bound hv.gr).2
  have c0 := hE.cell hv.c0
  have c3 := hE.cell hby.c3
  obtain ⟨b, off, pa, pl, pc, ma, ml, mc, oa, ol, oc, rfl, hlt2, hT⟩ := Graph.at (Graph.mono hE hv.gr) ht
  have d0 := hT.c0
  have d5 := hT.c5
  have H0 := Lib.hid h0
  have HE := Lib.hid hE
  have Hv := Lib.hid hv
  have Hby := Lib.hid hby
  have Hrt := Lib.hid hrt
  clear hT h0 hE hv hby hrt
  by_cases h13 : (nth g t).kind = 13
  · have h13b : ((nth g t).kind != 13) = false := by rw [h13]; rfl
    have hrow := Hby.out.row (nth g t).opq
    have hlook := (Hby.out.at_.ext (HE.out.trans (Ext.drew _))).lookup Tryz.underlying100 keyString (nth g t).opq zero35
    obtain ⟨va, vc, hva, -⟩ := id hrow
    rw [hva] at hlook hrow
    have hbl := (SlW.bound hrow).2
    have hln : (numsOf (byN rs rs.length (nth g t).opq)).length = (byN rs rs.length (nth g t).opq).length := by simp [numsOf]
    rw [hln] at hlook hrow hbl
    obtain ⟨L, hL⟩ : ∃ L, L = byN rs rs.length (nth g t).opq := ⟨_, rfl⟩
    rw [← hL] at hlook hrow hbl
    have HL := Lib.hid hL
    have Hrow := Lib.hid hrow
    have hl60 : L.length ≤ 60 := by have := byN_len rs rs.length (nth g t).opq; rw [← hL] at this; omega
    have Hs := Lib.hid (show revealL g rs t = L.map fun i => ⟨5, (nth rs i).type.toNat, i⟩ by unfold revealL; rw [if_pos h13, hL])
    clear h13 hva hrow hln hL
    refine callsIn_of_wp Tryz.func142 rfl trivial ?_ rfl
    simp only [Tryz.ntmps142, List.size_toArray, List.length_cons, List.length_nil, Nat.reduceAdd, Nat.reduceSub, Array.replicate_succ, Array.replicate_zero, List.push_toArray, List.append_toArray, List.nil_append, List.cons_append]
    gi_upto_region 3 with (fail)
    refine wpIn_region_any (by kernel_rfl) ?_
    change wpAnyIn _ _ _ _ _ _ _ _ _ (World.drew _)
    refine wpAnyIn_look (i := 9) (fu := 5) (v := ?_) rfl (by kernel_rfl) (by kernel_rfl) (by kernel_rfl) (by kernel_rfl) (by kernel_rfl) (fun _ _ _ h => h) (Or.inl ⟨by kernel_rfl, ?_⟩) rfl ?_
    rotate_left
    · first | (go_simp; done) | (go_simp; with_reducible rfl)
    simp only [Act.put, nm]
    refine wpAnyIn_look (i := 4) (fu := 4) (v := ?_) rfl (by kernel_rfl) (by kernel_rfl) (by kernel_rfl) (by kernel_rfl) (by kernel_rfl) (fun _ _ _ h => h) (Or.inl ⟨by kernel_rfl, ?_⟩) rfl ?_
    rotate_left
    · first | (go_simp; done) | (go_simp; with_reducible rfl)
    simp only [Act.put, nm]
    refine wpAnyIn_look (i := 5) (fu := 4) (v := ?_) rfl (by kernel_rfl) (by kernel_rfl) (by kernel_rfl) (by kernel_rfl) (by kernel_rfl) (fun _ _ _ h => h) (Or.inl ⟨by kernel_rfl, ?_⟩) rfl ?_
    rotate_left
    · first | (go_simp; done) | (go_simp; with_reducible rfl)
    simp only [Act.put, nm]
    refine wpAnyIn_look (i := 6) (fu := 4) (v := ?_) rfl (by kernel_rfl) (by kernel_rfl) (by kernel_rfl) (by kernel_rfl) (by kernel_rfl) (fun _ _ _ h => h) (Or.inl ⟨by kernel_rfl, ?_⟩) rfl ?_
    rotate_left
    · first | (go_simp; done) | (go_simp; with_reducible rfl)
    simp only [Act.put, nm]
    refine wpAnyIn_look (i := 7) (fu := 4) (v := ?_) rfl (by kernel_rfl) (by kernel_rfl) (by kernel_rfl) (by kernel_rfl) (by kernel_rfl) (fun _ _ _ h => h) (Or.inl ⟨by kernel_rfl, ?_⟩) rfl ?_
    rotate_left
    · first | (go_simp; done) | (go_simp; with_reducible rfl)
    simp only [Act.put, nm]
    refine wpAnyIn_look (i := 8) (fu := 4) (v := ?_) rfl (by kernel_rfl) (by kernel_rfl) (by kernel_rfl) (by kernel_rfl) (by kernel_rfl) (fun _ _ _ h => h) (Or.inl ⟨by kernel_rfl, ?_⟩) rfl ?_
    rotate_left
    · first | (go_simp; done) | (go_simp; with_reducible rfl)
    simp only [Act.put, nm]
    refine wpAnyIn_look (i := 10) (fu := 4) (v := ?_) rfl (by kernel_rfl) (by kernel_rfl) (by kernel_rfl) (by kernel_rfl) (by kernel_rfl) (fun _ _ _ h => h) (Or.inl ⟨by kernel_rfl, ?_⟩) rfl ?_
    rotate_left
    · first | (go_simp; done) | (go_simp; with_reducible rfl)
    simp only [Act.put, nm]
    refine wpAnyIn_look (i := 11) (fu := 4) (v := ?_) rfl (by kernel_rfl) (by kernel_rfl) (by kernel_rfl) (by kernel_rfl) (by kernel_rfl) (fun _ _ _ h => h) (Or.inl ⟨by kernel_rfl, ?_⟩) rfl ?_
    rotate_left
    · first | (go_simp; done) | (go_simp; with_reducible rfl)
    simp only [Act.put, nm]
    refine wpAnyIn_look (i := 12) (fu := 4) (v := ?_) rfl (by kernel_rfl) (by kernel_rfl) (by kernel_rfl) (by kernel_rfl) (by kernel_rfl) (fun _ _ _ h => h) (Or.inl ⟨by kernel_rfl, ?_⟩) rfl ?_
    rotate_left
    · first | (go_simp; done) | (go_simp; with_reducible rfl)
    simp only [Act.put, nm]
    refine wpAnyIn_look (i := 0) (fu := 1) (v := ?_) rfl (by kernel_rfl) (by kernel_rfl) (by kernel_rfl) (by kernel_rfl) (by kernel_rfl) (fun _ _ _ h => h) (Or.inl ⟨by kernel_rfl, ?_⟩) rfl ?_
    rotate_left
    · first | (go_simp; done) | (go_simp; with_reducible rfl)
    simp only [Act.put, nm]
    refine wpAnyIn_look (i := 1) (fu := 1) (v := ?_) rfl (by kernel_rfl) (by kernel_rfl) (by kernel_rfl) (by kernel_rfl) (by kernel_rfl) (fun _ _ _ h => h) (Or.inl ⟨by kernel_rfl, ?_⟩) rfl ?_
    rotate_left
    · first | (go_simp; done) | (go_simp; with_reducible rfl)
    simp only [Act.put, nm]
    refine wpAnyIn_look (i := 2) (fu := 1) (v := ?_) rfl (by kernel_rfl) (by kernel_rfl) (by kernel_rfl) (by kernel_rfl) (by kernel_rfl) (fun _ _ _ h => h) (Or.inl ⟨by kernel_rfl, ?_⟩) rfl ?_
    rotate_left
    · first | (go_simp; done) | (go_simp; with_reducible rfl)
    simp only [Act.put, nm]
    refine wpAnyIn_look (i := 3) (fu := 1) (v := ?_) rfl (by kernel_rfl) (by kernel_rfl) (by kernel_rfl) (by kernel_rfl) (by kernel_rfl) (fun _ _ _ h => h) (Or.inl ⟨by kernel_rfl, ?_⟩) rfl ?_
    rotate_left
    · first | (go_simp; done) | (go_simp; with_reducible rfl)
    simp only [Act.put, nm]
    refine wpAnyIn_look (i := 13) (fu := 1) (v := ?_) rfl (by kernel_rfl) (by kernel_rfl) (by kernel_rfl) (by kernel_rfl) (by kernel_rfl) (fun _ _ _ h => h) (Or.inl ⟨by kernel_rfl, ?_⟩) rfl ?_
    rotate_left
    · first | (go_simp; done) | (go_simp; with_reducible rfl)
    simp only [Act.put, nm]
    refine wpAnyIn_look (i := 14) (fu := 1) (v := ?_) rfl (by kernel_rfl) (by kernel_rfl) (by kernel_rfl) (by kernel_rfl) (by kernel_rfl) (fun _ _ _ h => h) (Or.inl ⟨by kernel_rfl, ?_⟩) rfl ?_
    rotate_left
    · first | (go_simp; done) | (go_simp; with_reducible rfl)
    simp only [Act.put, nm]
    refine wpAnyIn_look (i := 15) (fu := 0) (v := ?_) rfl (by kernel_rfl) (by kernel_rfl) (by kernel_rfl) (by kernel_rfl) (by kernel_rfl) (fun _ _ _ h => h) (Or.inl ⟨by kernel_rfl, ?_⟩) rfl ?_
    rotate_left
    · first | (go_simp; done) | (go_simp; with_reducible rfl)
    simp only [Act.put, nm]
    refine wpAnyIn_done (by kernel_rfl) ?_ _
    have HJ4 := Lib.hid (X.gr _ _ _ H0.out (grown_of_ext (Ext.drew W)))
    have HE4 := Lib.hid (HE.out.trans (Ext.drew W))
    have HK4 := Lib.hid (KpF.ext X.ok (n := w0.heap.size) HE.out.size hN (Ext.drew W))
    clear hlook d0 d5 c0 c3
    gi_upto_region 4 with (fail)
    gi_loopw [6, 8, 34] (fun _ _ i wr => ∃ k : Nat, k ≤ L.length ∧ i = .int .i64 k ∧ Hid (J (pre ++ revTo rs L k) wr ∧ Ext w0 wr ∧ KpF w0.heap.size foot W wr)) (fun _ _ i _ => L.length - (intOf i).toNat)
    case atStart => exact ⟨0, Nat.zero_le _, rfl, by simpa [revTo] using HJ4.out, HE4.out, HK4.out⟩
    case round =>
      clear HJ4 HE4 HK4
      obtain ⟨k, hk, rfl, hH⟩ := hrel
      have HJ5 := Lib.hid hH.out.1
      have HE5 := Lib.hid hH.out.2.1
      have HK5 := Lib.hid hH.out.2.2
      clear hH
      by_cases hlt : k < L.length
      · have c2 := HE5.out.cell Hv.out.c2
        obtain ⟨rb, roff, rfl, e0⟩ := numsOf_at (Ints.mono HE5.out Hrow.out) hlt
        have hil : nth L k < rs.length := byN_lt (k := rs.length) (name := (nth g t).opq) (by rw [← HL.out]; exact nth_mem hlt)
        obtain ⟨q, hq⟩ : ∃ q, q = nth L k := ⟨_, rfl⟩
        rw [← hq] at e0 hil
        obtain ⟨b9, off9, hro, hrl, r0, r1, r2, _⟩ := Reveals.at (Reveals.mono HE5.out Hv.out.re) hil
        cases hro
        obtain ⟨ty, hty⟩ : ∃ ty : Nat, (nth rs q).type = ty := ⟨(nth rs q).type.toNat, (Int.toNat_of_nonneg (Hrt.out q hil).1).symm⟩
        rw [hty] at r2
        have htl : ty < g.length := by have := (Hrt.out q hil).2; omega
        have Hup := Lib.hid (show revTo rs L (k + 1) = revTo rs L k ++ [⟨5, ty, q⟩] by rw [revTo_succ hlt, ← hq, hty, Int.toNat_natCast])
        have hrl2 := revTo_len rs L k
        obtain ⟨fn, tmps, assign, body, hy, hR⟩ := X.Y (pre ++ revTo rs L k) ⟨5, ty, q⟩ wr ⟨by show 5 ≤ 7; decide, by show ty < nV; omega, by show q < 60; omega⟩ HJ5.out (by rw [List.length_append]; omega)
        have hy2 : (Instr.yield l #[.agg #[.int .u8 5, .int .i64 (ty : Int), .int .i64 (q : Int)]]).run Tryz.prog wr = .ok (.round l fn tmps assign body) wr := hy
        have Hq := Lib.hid hq
        clear hq hty r0 r1 hy
        gi_wp2_with fail
        refine ⟨fun h => (by cases h), (hR _).mono ?_⟩
        rintro e W5 (⟨rfl, hH⟩ | ⟨rfl, hJx⟩)
        · gi_wp2_with fail
          go_roundw
          case rel => exact ⟨k + 1, by omega, by go_num, by rw [Hup.out, ← List.append_assoc]; exact hH.out.1, ext_kpf HE5.out hH.out.2, HK5.out.trans hH.out.2⟩
          case measure => simp [intOf]; omega
        · gi_wp2_with fail
          go_ret
          rw [Hs.out]
          exact Or.inr ⟨rfl, revTo rs L (k + 1), revTo_prefix rs L (k + 1), by rw [Hup.out, ← List.append_assoc]; exact hJx.out⟩
      · have : k = L.length := by omega
        subst this
        have Hall := Lib.hid (revTo_all rs L)
        gi_wp2_with fail
        go_ret
        rw [Hs.out, ← Hall.out]
        exact Or.inl ⟨rfl, HJ5.out, HK5.out⟩
  · have h13b : ((nth g t).kind != 13) = true := by simp only [bne_iff_ne, ne_eq]; exact h13
    have Hs := Lib.hid (show revealL g rs t = [] by unfold revealL; rw [if_neg h13])
    clear h13
    refine callsIn_of_wp Tryz.func142 rfl trivial ?_ rfl
    simp only [Tryz.ntmps142, List.size_toArray, List.length_cons, List.length_nil, Nat.reduceAdd, Nat.reduceSub, Array.replicate_succ, Array.replicate_zero, List.push_toArray, List.append_toArray, List.nil_append, List.cons_append]
    gi_wp2_with fail
    go_ret
    rw [Hs.out]
    exact Or.inl ⟨rfl, by rw [List.append_nil]; exact H0.out, KpF.refl _ _ _⟩
end Go.Proofs.YtjffkeoajkhbmaaGreat

namespace Go.Proofs.YtjffkeoajkhbmaaGreat
open Go.RowKit Go.Proofs Go.Shelf
set_option linter.unusedSimpArgs false
attribute [local go_sem] Oper.semAt_some
def anyTo (k : Int) : Int := if k = 7 ∨ k = 8 then 6 else if k = 6 ∨ k = 9 ∨ k = 10 ∨ k = 11 then 4 else 0
def anyP (to_ : Int) (k : Int) : Bool := to_ != 0 && k == to_
def anyL (g : List Ty) (t : Nat) : List Stp := toL 7 g.length fun u => anyP (anyTo (nth g t).kind) (nth g u).kind
theorem anyMap (W : World) : ∃ W6, ∃ m : List (Int × Value), (∀ k : Int, (alook k m).getD (.int .u8 0) = .int .u8 (anyTo k)) ∧ MapAt (Value.int .u8) W6 W.heap.size m ∧ Ext W W6 ∧ W6.heap.size = W.heap.size + 1 ∧
    ∃ W1 W2 W3 W4 W5, (Instr.mapUpdate 197 (.map (some W.heap.size)) (.int .u8 7) (.int .u8 6)).run Tryz.prog (W.alloc (.map #[] 0)) = .ok () W1 ∧ (Instr.mapUpdate 197 (.map (some W.heap.size)) (.int .u8 8) (.int .u8 6)).run Tryz.prog W1 = .ok () W2 ∧
      (Instr.mapUpdate 197 (.map (some W.heap.size)) (.int .u8 6) (.int .u8 4)).run Tryz.prog W2 = .ok () W3 ∧ (Instr.mapUpdate 197 (.map (some W.heap.size)) (.int .u8 9) (.int .u8 4)).run Tryz.prog W3 = .ok () W4 ∧
      (Instr.mapUpdate 197 (.map (some W.heap.size)) (.int .u8 10) (.int .u8 4)).run Tryz.prog W4 = .ok () W5 ∧ (Instr.mapUpdate 197 (.map (some W.heap.size)) (.int .u8 11) (.int .u8 4)).run Tryz.prog W5 = .ok () W6 := by
  have h0 := MapAt.made (Value.int .u8) W
  have hE0 := Ext.alloc W (.map #[] 0)
  obtain ⟨W1, r1, m1, g1, s1⟩ := h0.update Tryz.underlying197 keyU8 7 (.int .u8 6)
  obtain ⟨W2, r2, m2, g2, s2⟩ := m1.update Tryz.underlying197 keyU8 8 (.int .u8 6)
  obtain ⟨W3, r3, m3, g3, s3⟩ := m2.update Tryz.underlying197 keyU8 6 (.int .u8 4)
  obtain ⟨W4, r4, m4, g4, s4⟩ := m3.update Tryz.underlying197 keyU8 9 (.int .u8 4)
  obtain ⟨W5, r5, m5, g5, s5⟩ := m4.update Tryz.underlying197 keyU8 10 (.int .u8 4)
  obtain ⟨W6, r6, m6, g6, s6⟩ := m5.update Tryz.underlying197 keyU8 11 (.int .u8 4)
  have hg := grownBy_trans (grownBy_trans (grownBy_trans (grownBy_trans (grownBy_trans g1 g2) g3) g4) g5) g6
  refine ⟨W6, _, fun k => ?_, m6, hE0.grown hg (by simp) (fun k e => by cases e; exact Nat.le_refl _), by rw [s6, s5, s4, s3, s2, s1]; simp, W1, W2, W3, W4, W5, r1, r2, r3, r4, r5, r6⟩
  rw [alook_aput, alook_aput, alook_aput, alook_aput, alook_aput, alook_aput]
  unfold anyTo
  by_cases k11 : k = 11
  · subst k11; rfl
  by_cases k10 : k = 10
  · subst k10; rfl
  by_cases k9 : k = 9
  · subst k9; rfl
  by_cases k6 : k = 6
  · subst k6; rfl
  by_cases k8 : k = 8
  · subst k8; rfl
  by_cases k7 : k = 7
  · subst k7; rfl
  simp [k11, k10, k9, k6, k8, k7, alook]
set_option maxRecDepth 100000 in
set_option maxHeartbeats 2000000 in
theorem any144 {N NN nV l : Nat} {w0 : World} {foot : World → Nat → Prop} {J Jx : List Stp → World → Prop} (X : YCtx N NN nV l w0 foot J Jx) (m vb : Nat) (g : List Ty) (C : Nat → Nat) (rs : List Reveal) (S : List Nat) (gv cv rv av : Value) (hv : EnvW w0 vb g C rs S gv cv rv av)
    (hn : g.length ≤ 400) (hnV : g.length ≤ nV) (t : Nat) (ht : t < g.length) (pre : List Stp) (hlen : pre.length + g.length ≤ NN) (W : World) (hE : Ext w0 W) (hN : N ≤ W.heap.size) (h0 : J pre W) :
    CallsIn Fence.wide m Tryz.prog 144 #[.pointer (some ⟨vb, 0, none⟩), .int .i64 t, .func (.yield l) #[] #[]] W (YPost w0.heap.size foot J Jx pre (anyL g t) W) := by
  obtain ⟨ga, gc, rfl, -⟩ := id hv.gr
  have hb := (SlW.bound hv.gr).2
  have hE1 := Ext.alloc W (.cells #[.pointer (some ⟨vb, 0, none⟩)] 28)
  obtain ⟨b, off, pa, pl, pc, ma, ml, mc, oa, ol, oc, hgo, hlt2, hT⟩ := Graph.at (Graph.mono hE hv.gr) ht
  cases hgo
  have d0 := hT.c0
  obtain ⟨W6, mp, hlk, hM, hE6, hs6, W1, W2, W3, W4, W5, r1, r2, r3, r4, r5, r6⟩ := anyMap (W.alloc (.cells #[.pointer (some ⟨vb, 0, none⟩)] 28))
  have hlook := hM.lookup Tryz.underlying197 keyU8 (nth g t).kind zero5
  rw [hlk] at hlook
  rw [World.size_alloc] at r1 r2 r3 r4 r5 r6 hlook hs6
  have hE16 := hE1.trans hE6
  have hmm := @run_makeMap Tryz.prog
  have c0 := (hE.trans hE16).cell hv.c0
  have d0' := hE16.cell d0
  have hs3 : Safe foot W6 W.heap.size #[.pointer (some ⟨vb, 0, none⟩)] 28 := (Safe.new X.ok W hN _ _ (Or.inl (by decide))).ext X.ok (by simp; omega) hE6
  have x3 := hs3.cell (j := 0) rfl
  have hE7 := Ext.alloc W6 (.cells #[.int .u8 (anyTo (nth g t).kind)] 5)
  have hs7 : Safe foot (W6.alloc (.cells #[.int .u8 (anyTo (nth g t).kind)] 5)) (W.heap.size + 1 + 1) #[.int .u8 (anyTo (nth g t).kind)] 5 := by
    have := Safe.new X.ok W6 (by omega) #[.int .u8 (anyTo (nth g t).kind)] 5 (Or.inl (by decide))
    rwa [hs6] at this
  have hs3' := hs3.ext X.ok (by omega) hE7
  have hEall := hE16.trans hE7
  have hto := Lib.hid (to166 N w0.heap.size NN nV l (m - 1) foot X.ok J Jx X.Y X.gr 170 enters170 #[.pointer (some ⟨W.heap.size + 1 + 1, 0, none⟩), .pointer (some ⟨W.heap.size, 0, none⟩)] 7 vb (by decide) _ g.length gc hn hnV (fun u => anyP (anyTo (nth g t).kind) (nth g u).kind)
    (fun W' => Ext w0 W' ∧ Safe foot W' W.heap.size #[.pointer (some ⟨vb, 0, none⟩)] 28 ∧ Safe foot W' (W.heap.size + 1 + 1) #[.int .u8 (anyTo (nth g t).kind)] 5)
    (fun A B h k => ⟨ext_kpf h.1 k, h.2.1.kept k, h.2.2.kept k⟩) (fun A h => h.1.cell hv.c0)
    (fun u A hu h => any170 u _ _ vb _ _ g.length gc g A hu (h.2.2.cell rfl) (h.2.1.cell rfl) (h.1.cell hv.c0) (Graph.mono h.1 hv.gr))
    pre hlen _ (by simp; omega) (by have := hE.size; simp; omega) ⟨hE.trans hEall, hs3', hs7⟩ (X.gr _ _ _ h0 (grown_of_ext hEall)))
  have HK := Lib.hid (KpF.ext X.ok (n := w0.heap.size) hE.size hN hEall)
  have Hlk := Lib.hid hlk
  obtain ⟨to_, hto_⟩ : ∃ to_, to_ = anyTo (nth g t).kind := ⟨_, rfl⟩
  rw [← hto_] at hlook hto HK
  have Hto := Lib.hid hto_
  clear hs3 hs3' hs7 hE1 hE6 hE16 hE7 hEall hT hv hM hlk d0 h0 hto_
  refine callsIn_of_wp Tryz.func144 rfl trivial ?_ rfl
  simp only [Tryz.ntmps144, List.size_toArray, List.length_cons, List.length_nil, Nat.reduceAdd, Nat.reduceSub, Array.replicate_succ, Array.replicate_zero, List.push_toArray, List.append_toArray, List.nil_append, List.cons_append]
  gi_wp2_with fail
  refine ⟨trivial, fun h => (by cases h), hto.out.mono ?_⟩
  rintro e W9 hP
  have HP := Lib.hid hP
  rcases hP with ⟨rfl, _⟩ | ⟨rfl, _⟩
  · gi_wp2_with fail
    go_ret
    have := YPost.step HK.out HP.out
    rw [Hto.out] at this
    exact this
  · gi_wp2_with fail
    go_ret
    have := YPost.step HK.out HP.out
    rw [Hto.out] at this
    exact this
end Go.Proofs.YtjffkeoajkhbmaaGreat

namespace Go.Proofs.YtjffkeoajkhbmaaGreat
open Go.RowKit Go.Proofs Go.Shelf
set_option linter.unusedSimpArgs false
attribute [local go_sem] Oper.semAt_some
def ruleL (g : List Ty) (C : Nat → Nat) (rs : List Reveal) (t : Nat) : Nat → List Stp
  | 1 => toL 1 g.length fun u => C u == C t
  | 2 => widerL g t
  | 3 => nullL g t
  | 4 => superL g t
  | 5 => revealL g rs t
  | 6 => backL g rs t
  | 7 => anyL g t
  | _ => []
def stepsTo (g : List Ty) (C : Nat → Nat) (rs : List Reveal) (t k : Nat) : List Stp := ((List.range k).map (ruleL g C rs t)).flatten
def stepsL (g : List Ty) (C : Nat → Nat) (rs : List Reveal) (t : Nat) : List Stp := stepsTo g C rs t 8
theorem stepsTo_succ (g : List Ty) (C : Nat → Nat) (rs : List Reveal) (t k : Nat) : stepsTo g C rs t (k + 1) = stepsTo g C rs t k ++ ruleL g C rs t k := by
  unfold stepsTo; rw [List.range_succ, List.map_append, List.flatten_append]; simp
theorem stepsTo_prefix (g : List Ty) (C : Nat → Nat) (rs : List Reveal) (t : Nat) : ∀ n k, k ≤ n → stepsTo g C rs t k <+: stepsTo g C rs t n
  | 0, k, h => by rw [Nat.le_zero.1 h]; exact List.prefix_refl _
  | n + 1, k, h => by
    by_cases hk : k = n + 1
    · rw [hk]; exact List.prefix_refl _
    · rw [stepsTo_succ]
      exact (stepsTo_prefix g C rs t n k (by omega)).trans (List.prefix_append _ _)
theorem ruleL_len {g : List Ty} {C : Nat → Nat} {rs : List Reveal} {t : Nat} (hn : g.length ≤ 400) (h60 : rs.length ≤ 60) : ∀ k, (ruleL g C rs t k).length ≤ if k = 6 then 24000 else 400
  | 0 => by simp [ruleL]
  | 1 => by have := toL_len 1 g.length (fun u => C u == C t); simp only [ruleL]; simp; omega
  | 2 => by
    simp only [ruleL, widerL]
    split
    · have := toL_len 2 g.length (fun u => widerB (nth g t) (nth g u)); simp; omega
    · simp
  | 3 => by
    simp only [ruleL, nullL]
    split
    · have := toL_len 3 g.length (fun u => !isWordB (nth g u).kind); simp; omega
    · simp
  | 4 => by simp only [ruleL, superL]; split <;> simp
  | 5 => by
    simp only [ruleL, revealL]
    split
    · have := byN_len rs rs.length (nth g t).opq; simp; omega
    · simp
  | 6 => by
    have := backUpTo_len g rs t rs.length
    have h2 : rs.length * g.length ≤ 60 * 400 := Nat.mul_le_mul h60 hn
    show (backL g rs t).length ≤ _
    unfold backL
    simp; omega
  | 7 => by have := toL_len 7 g.length (fun u => anyP (anyTo (nth g t).kind) (nth g u).kind); simp only [ruleL, anyL]; simp; omega
  | k + 8 => by simp [ruleL]
theorem stepsTo_len {g : List Ty} {C : Nat → Nat} {rs : List Reveal} {t : Nat} (hn : g.length ≤ 400) (h60 : rs.length ≤ 60) : ∀ k, (stepsTo g C rs t k).length ≤ 400 * k + if 6 < k then 24000 else 0
  | 0 => by simp [stepsTo]
  | k + 1 => by
    rw [stepsTo_succ, List.length_append]
    have h1 := stepsTo_len (C := C) (t := t) hn h60 k
    have h2 := ruleL_len (C := C) (t := t) hn h60 k
    split at h1 <;> split at h2 <;> split <;> omega
theorem ruleL_ok {g : List Ty} {C : Nat → Nat} {rs : List Reveal} {t : Nat} (hr : rightB g (nth g t) = true) (h60 : rs.length ≤ 60) (hrt : ∀ i, i < rs.length → 0 ≤ (nth rs i).type ∧ (nth rs i).type < g.length) :
    ∀ k s, s ∈ ruleL g C rs t k → OkStp g.length s := by
  have hto : ∀ r p s, r ≤ 7 → s ∈ toL r g.length p → OkStp g.length s := fun r p s h7 hs => by
    unfold toL at hs
    obtain ⟨u, hu, rfl⟩ := List.mem_map.1 hs
    exact ⟨h7, List.mem_range.1 (List.mem_filter.1 hu).1, by show 0 < 60; decide⟩
  intro k s hs
  match k, hs with
  | 0, hs => cases hs
  | 1, hs => exact hto 1 _ s (by decide) hs
  | 2, hs =>
    simp only [ruleL, widerL] at hs
    split at hs
    · exact hto 2 _ s (by decide) hs
    · cases hs
  | 3, hs =>
    simp only [ruleL, nullL] at hs
    split at hs
    · exact hto 3 _ s (by decide) hs
    · cases hs
  | 4, hs =>
    simp only [ruleL, superL] at hs
    split at hs
    · rename_i h
      have := right_super hr h
      rcases List.mem_singleton.1 hs with rfl
      exact ⟨by show 4 ≤ 7; decide, by show (nth g t).super.toNat < g.length; omega, by show 0 < 60; decide⟩
    · cases hs
  | 5, hs =>
    simp only [ruleL, revealL] at hs
    split at hs
    · obtain ⟨i, hi, rfl⟩ := List.mem_map.1 hs
      have hi := byN_lt hi
      have := hrt i hi
      exact ⟨by show 5 ≤ 7; decide, by show (nth rs i).type.toNat < g.length; omega, by show i < 60; omega⟩
    · cases hs
  | 6, hs =>
    simp only [ruleL, backL, backUpTo] at hs
    obtain ⟨l, hl, hsl⟩ := List.mem_flatten.1 hs
    obtain ⟨i, hi, rfl⟩ := List.mem_map.1 hl
    have hi := List.mem_range.1 hi
    unfold backOf at hsl
    split at hsl
    · obtain ⟨u, hu, rfl⟩ := List.mem_map.1 hsl
      exact ⟨by show 6 ≤ 7; decide, List.mem_range.1 (List.mem_filter.1 hu).1, by show i < 60; omega⟩
    · cases hsl
  | 7, hs => exact hto 7 _ s (by decide) hs
  | k + 8, hs => cases hs
theorem stepsTo_ok {g : List Ty} {C : Nat → Nat} {rs : List Reveal} {t : Nat} (hr : rightB g (nth g t) = true) (h60 : rs.length ≤ 60) (hrt : ∀ i, i < rs.length → 0 ≤ (nth rs i).type ∧ (nth rs i).type < g.length) (k : Nat) : ∀ s, s ∈ stepsTo g C rs t k → OkStp g.length s := by
  intro s hs
  unfold stepsTo at hs
  obtain ⟨l, hl, hsl⟩ := List.mem_flatten.1 hs
  obtain ⟨i, _, rfl⟩ := List.mem_map.1 hl
  exact ruleL_ok hr h60 hrt i s hsl
end Go.Proofs.YtjffkeoajkhbmaaGreat

namespace Go.Proofs.YtjffkeoajkhbmaaGreat
open Go.RowKit Go.Proofs Go.Shelf
set_option linter.unusedSimpArgs false
attribute [local go_sem] Oper.semAt_some
abbrev StpG (n : Nat) := { s : Stp // OkStp n s }
def encG {n : Nat} (s : StpG n) : Array Value := encStp s.1
set_option maxRecDepth 100000 in
set_option maxHeartbeats 4000000 in
theorem steps106 (N vb : Nat) (g : List Ty) (C : Nat → Nat) (rs : List Reveal) (S : List Nat) (gv cv rv av : Value) (mb : Nat) (mm : List (BA × Value)) (w0 w : World) (hv : EnvW w0 vb g C rs S gv cv rv av) (hby : ByAt w0 vb rs mb mm) (hE : Ext w0 w)
    (hn : g.length ≤ 400) (hr60 : rs.length ≤ 60) (t : Nat) (ht : t < g.length) (hr : rightB g (nth g t) = true) (hrt : ∀ i, i < rs.length → 0 ≤ (nth rs i).type ∧ (nth rs i).type < g.length)
    (foot : World → Nat → Prop) (hok : FootOk N foot) (hN : N ≤ w.heap.size) (b1 b2 : Nat) (h1 : Safe foot w b1 #[.pointer (some ⟨vb, 0, none⟩)] 28) (h2 : Safe foot w b2 #[.int .i64 t] 3) (m : Nat) :
    SeqStopsK Fence.wide m Tryz.prog 106 #[.pointer (some ⟨b1, 0, none⟩), .pointer (some ⟨b2, 0, none⟩)] (encG (n := g.length)) (KpF w0.heap.size foot) (fun ys => ys.map (·.1) = stepsL g C rs t) (fun pre => pre.map (·.1) <+: stepsL g C rs t) 30000 w := by
  intro l JA JxA W hW hJA hJxA hYA hA0
  have hso := stepsTo_ok hr hr60 hrt (C := C)
  obtain ⟨J, hJd⟩ : ∃ J : List Stp → World → Prop, J = fun pre W => ∃ pa : List (StpG g.length), pa.map (·.1) = pre ∧ JA pa W := ⟨_, rfl⟩
  obtain ⟨Jx, hJxd⟩ : ∃ J : List Stp → World → Prop, J = fun pre W => ∃ pa : List (StpG g.length), pa.map (·.1) = pre ∧ JxA pa W := ⟨_, rfl⟩
  have h0 : J [] W := by rw [hJd]; exact ⟨[], rfl, hA0⟩
  have hEW : Ext w0 W := hE.trans hW
  have hNW : N ≤ W.heap.size := Nat.le_trans hN hW.size
  have s1 := h1.ext hok hN hW
  have s2 := h2.ext hok hN hW
  have X : YCtx N 30000 g.length l w0 foot J Jx := by
    refine ⟨hok, ?_, ?_⟩
    · intro pre s W1 hs h hl
      rw [hJd] at h
      obtain ⟨pa, e1, e2⟩ := h
      obtain ⟨fn, tmps, assign, body, hr, hR⟩ := hYA pa ⟨s, hs⟩ W1 e2 (by rw [← e1] at hl; simpa using hl)
      refine ⟨fn, tmps, assign, body, hr, fun m => roundIn_any (hR.mono ?_)⟩
      rintro e W' (⟨rfl, a, b⟩ | ⟨rfl, a⟩)
      · exact Or.inl ⟨rfl, by rw [hJd]; exact ⟨_, by simp [e1], a⟩, b⟩
      · exact Or.inr ⟨rfl, by rw [hJxd]; exact ⟨_, by simp [e1], a⟩⟩
    · intro pre W1 W2 h hg
      rw [hJd] at h ⊢
      obtain ⟨pa, e1, e2⟩ := h
      exact ⟨pa, e1, hJA pa W1 W2 none e2 hg (fun r e => by cases e)⟩
  refine CallsIn.mono (R := fun e W' => (∃ v, e = .returned v) ∧ ((∃ xs, xs = stepsL g C rs t ∧ J xs W') ∨ (∃ pre, pre <+: stepsL g C rs t ∧ Jx pre W'))) ?_ ?_
  rotate_left
  · rintro e W' ⟨hv, (⟨xs, rfl, h⟩ | ⟨pre, hp, h⟩)⟩
    · rw [hJd] at h
      obtain ⟨pa, e1, e2⟩ := h
      exact ⟨hv, Or.inl ⟨pa, e1, e2⟩⟩
    · rw [hJxd] at h
      obtain ⟨pa, e1, e2⟩ := h
      exact ⟨hv, Or.inr ⟨pa, (show pa.map (·.1) <+: stepsL g C rs t by rw [e1]; exact hp), e2⟩⟩
  clear hJA hJxA hYA hA0 hJd hJxd hso h1 h2
  have hlen := fun k => stepsTo_len (C := C) (t := t) hn hr60 k
  have hrule := Lib.hid (show ∀ k F, 1 ≤ k → k < 8 → stepTable[k]? = some (.func (.func F) #[] #[]) → ∀ Wk, J (stepsTo g C rs t k) Wk → Ext w0 Wk → N ≤ Wk.heap.size → ∀ m, CallsIn Fence.wide m Tryz.prog F #[.pointer (some ⟨vb, 0, none⟩), .int .i64 t, .func (.yield l) #[] #[]] Wk (YPost w0.heap.size foot J Jx (stepsTo g C rs t k) (ruleL g C rs t k) Wk) from by
    intro k F hk1 hk8 hF Wk hJ hEk hNk m
    have hl := hlen k
    rcases (show k = 1 ∨ k = 2 ∨ k = 3 ∨ k = 4 ∨ k = 5 ∨ k = 6 ∨ k = 7 by omega) with rfl | rfl | rfl | rfl | rfl | rfl | rfl
    · cases hF; exact same138 X m vb g C rs S gv cv rv av hv hn (Nat.le_refl _) t ht _ (by simp at hl; omega) Wk hEk hNk hJ
    · cases hF; exact wider139 X m vb g C rs S gv cv rv av hv hn (Nat.le_refl _) t ht _ (by simp at hl; omega) Wk hEk hNk hJ
    · cases hF; exact null140 X m vb g C rs S gv cv rv av hv hn (Nat.le_refl _) t ht _ (by simp at hl; omega) Wk hEk hNk hJ
    · cases hF; exact super141 X m vb g C rs S gv cv rv av hv (Nat.le_refl _) t ht hr _ (by simp at hl; omega) Wk hEk hNk hJ
    · cases hF; exact reveal142 X m vb g C rs S gv cv rv av hv mb mm hby (Nat.le_refl _) hr60 hrt t ht _ (by simp at hl; omega) Wk hEk hNk hJ
    · cases hF; exact back143 X m vb g C rs S gv cv rv av hv hn (Nat.le_refl _) hr60 t ht _ (by simp at hl; omega) Wk hEk hNk hJ
    · cases hF; exact any144 X m vb g C rs S gv cv rv av hv hn (Nat.le_refl _) t ht _ (by simp at hl; omega) Wk hEk hNk hJ)
  have HX := Lib.hid X
  have H0 := Lib.hid h0
  clear hv hby hrt hr hlen X h0 hE hW
  have Hok := Lib.hid hok
  clear hok
  refine callsIn_of_wp Tryz.func106 rfl trivial ?_ rfl
  simp only [Tryz.ntmps106, List.size_toArray, List.length_cons, List.length_nil, Nat.reduceAdd, Nat.reduceSub, Array.replicate_succ, Array.replicate_zero, List.push_toArray, List.append_toArray, List.nil_append, List.cons_append]
  gi_wp2_with fail
  refine ⟨trivial, fun h => (by cases h), callsIn_wide.2 ((rules107 W).mono ?_)⟩
  rintro e W1 ⟨rfl, hE1⟩
  have HJ1 := Lib.hid (HX.out.gr _ _ _ H0.out (grown_of_ext hE1))
  have HE1 := Lib.hid (hEW.trans hE1)
  have HK1 := Lib.hid (KpF.ext Hok.out (n := w0.heap.size) hEW.size hNW hE1)
  have HS1 := Lib.hid (s1.ext Hok.out hNW hE1)
  have HS2 := Lib.hid (s2.ext Hok.out hNW hE1)
  clear hE1 s1 s2 H0 hEW
  gi_upto_region 1 with (fail)
  gi_loopw [5, 7] (fun _ i wr => ∃ k : Nat, k ≤ 8 ∧ i = .int .i64 k ∧ Hid (J (stepsTo g C rs t k) wr ∧ Ext w0 wr ∧ KpF w0.heap.size foot W wr ∧ Safe foot wr b1 #[.pointer (some ⟨vb, 0, none⟩)] 28 ∧ Safe foot wr b2 #[.int .i64 t] 3)) (fun _ i _ => 8 - (intOf i).toNat)
  case atStart => exact ⟨0, Nat.zero_le _, rfl, HJ1.out, HE1.out, HK1.out, HS1.out, HS2.out⟩
  case round =>
    clear HJ1 HE1 HK1 HS1 HS2
    obtain ⟨k, hk, rfl, hH⟩ := hrel
    have HJ := Lib.hid hH.out.1
    have HE := Lib.hid hH.out.2.1
    have HK := Lib.hid hH.out.2.2.1
    have HS1 := Lib.hid hH.out.2.2.2.1
    have HS2 := Lib.hid hH.out.2.2.2.2
    clear hH
    by_cases hlt : k < 8
    · have x1 := HS1.out.cell (j := 0) rfl
      have x2 := HS2.out.cell (j := 0) rfl
      have hNr : N ≤ wr.heap.size := Nat.le_trans hNW HK.out.below.size
      by_cases hk0 : k = 0
      · subst hk0
        have Hsu := Lib.hid (show stepsTo g C rs t (0 + 1) = stepsTo g C rs t 0 by rw [stepsTo_succ]; simp [ruleL])
        have hnq : ∀ w, (binOp .neq 151 .nilFunc .nilFunc).run Tryz.prog w = .ok (.bool false) w := fun _ => by kernel_rfl
        have hix : ∀ w, (Instr.index 152 (.agg stepTable) (.int .i64 0)).run Tryz.prog w = .ok .nilFunc w := fun _ => by kernel_rfl
        gi_wp2_with fail
        refine ⟨fun _ h => (by cases h), ?_⟩
        gi_wp2_with fail
        go_roundw
        case rel => exact ⟨0 + 1, by omega, rfl, by rw [Hsu.out]; exact HJ.out, HE.out, HK.out, HS1.out, HS2.out⟩
        case measure => simp [intOf]
      · rcases (show k = 1 ∨ k = 2 ∨ k = 3 ∨ k = 4 ∨ k = 5 ∨ k = 6 ∨ k = 7 by omega) with rfl | rfl | rfl | rfl | rfl | rfl | rfl
        · have hc := Lib.hid (hrule.out 1 138 (by decide) (by decide) rfl wr HJ.out HE.out hNr)
          have Hsu := Lib.hid (stepsTo_succ g C rs t 1)
          have Hpx := Lib.hid (stepsTo_prefix g C rs t 8 (1 + 1) (by decide))
          have hix : ∀ w, (Instr.index 152 (.agg stepTable) (.int .i64 1)).run Tryz.prog w = .ok (.func (.func 138) #[] #[]) w := fun _ => by kernel_rfl
          have hnq : ∀ w, (binOp .neq 151 (.func (.func 138) #[] #[]) .nilFunc).run Tryz.prog w = .ok (.bool true) w := fun _ => by kernel_rfl
          have hEn : ∀ (args : Array Value) (w : World), (callFunc 138 args).run Tryz.prog w = .ok (.enter 138 args) w := enters_of Tryz.func138 (by kernel_rfl) rfl
          gi_wp2_with fail
          refine ⟨trivial, fun h => (by cases h), (hc.out _).mono ?_⟩
          rintro e W3 (⟨rfl, hJ3, hK3⟩ | ⟨rfl, q, hq, hJx⟩)
          · have HJ3 := Lib.hid hJ3
            have HK3 := Lib.hid hK3
            clear hJ3 hK3
            gi_wp2_with fail
            go_roundw
            case rel => exact ⟨1 + 1, by omega, rfl, by rw [Hsu.out]; exact HJ3.out, ext_kpf HE.out HK3.out, HK.out.trans HK3.out, HS1.out.kept HK3.out, HS2.out.kept HK3.out⟩
            case measure => simp [intOf]
          · have HJx := Lib.hid hJx
            have Hq := Lib.hid hq
            clear hJx hq
            gi_wp2_with fail
            refine bodyPost_ret (results_none rfl _ _ _) rfl ?_
            exact ⟨⟨_, rfl⟩, .inr ⟨_, (show stepsTo g C rs t 1 ++ q <+: stepsL g C rs t from ((List.prefix_append_right_inj _).2 Hq.out).trans (by rw [← Hsu.out]; exact Hpx.out)), HJx.out⟩⟩
        · have hc := Lib.hid (hrule.out 2 139 (by decide) (by decide) rfl wr HJ.out HE.out hNr)
          have Hsu := Lib.hid (stepsTo_succ g C rs t 2)
          have Hpx := Lib.hid (stepsTo_prefix g C rs t 8 (2 + 1) (by decide))
          have hix : ∀ w, (Instr.index 152 (.agg stepTable) (.int .i64 2)).run Tryz.prog w = .ok (.func (.func 139) #[] #[]) w := fun _ => by kernel_rfl
          have hnq : ∀ w, (binOp .neq 151 (.func (.func 139) #[] #[]) .nilFunc).run Tryz.prog w = .ok (.bool true) w := fun _ => by kernel_rfl
          have hEn : ∀ (args : Array Value) (w : World), (callFunc 139 args).run Tryz.prog w = .ok (.enter 139 args) w := enters_of Tryz.func139 (by kernel_rfl) rfl
          gi_wp2_with fail
          refine ⟨trivial, fun h => (by cases h), (hc.out _).mono ?_⟩
          rintro e W3 (⟨rfl, hJ3, hK3⟩ | ⟨rfl, q, hq, hJx⟩)
          · have HJ3 := Lib.hid hJ3
            have HK3 := Lib.hid hK3
            clear hJ3 hK3
            gi_wp2_with fail
            go_roundw
            case rel => exact ⟨2 + 1, by omega, rfl, by rw [Hsu.out]; exact HJ3.out, ext_kpf HE.out HK3.out, HK.out.trans HK3.out, HS1.out.kept HK3.out, HS2.out.kept HK3.out⟩
            case measure => simp [intOf]
          · have HJx := Lib.hid hJx
            have Hq := Lib.hid hq
            clear hJx hq
            gi_wp2_with fail
            refine bodyPost_ret (results_none rfl _ _ _) rfl ?_
            exact ⟨⟨_, rfl⟩, .inr ⟨_, (show stepsTo g C rs t 2 ++ q <+: stepsL g C rs t from ((List.prefix_append_right_inj _).2 Hq.out).trans (by rw [← Hsu.out]; exact Hpx.out)), HJx.out⟩⟩
        · have hc := Lib.hid (hrule.out 3 140 (by decide) (by decide) rfl wr HJ.out HE.out hNr)
          have Hsu := Lib.hid (stepsTo_succ g C rs t 3)
          have Hpx := Lib.hid (stepsTo_prefix g C rs t 8 (3 + 1) (by decide))
          have hix : ∀ w, (Instr.index 152 (.agg stepTable) (.int .i64 3)).run Tryz.prog w = .ok (.func (.func 140) #[] #[]) w := fun _ => by kernel_rfl
          have hnq : ∀ w, (binOp .neq 151 (.func (.func 140) #[] #[]) .nilFunc).run Tryz.prog w = .ok (.bool true) w := fun _ => by kernel_rfl
          have hEn : ∀ (args : Array Value) (w : World), (callFunc 140 args).run Tryz.prog w = .ok (.enter 140 args) w := enters_of Tryz.func140 (by kernel_rfl) rfl
          gi_wp2_with fail
          refine ⟨trivial, fun h => (by cases h), (hc.out _).mono ?_⟩
          rintro e W3 (⟨rfl, hJ3, hK3⟩ | ⟨rfl, q, hq, hJx⟩)
          · have HJ3 := Lib.hid hJ3
            have HK3 := Lib.hid hK3
            clear hJ3 hK3
            gi_wp2_with fail
            go_roundw
            case rel => exact ⟨3 + 1, by omega, rfl, by rw [Hsu.out]; exact HJ3.out, ext_kpf HE.out HK3.out, HK.out.trans HK3.out, HS1.out.kept HK3.out, HS2.out.kept HK3.out⟩
            case measure => simp [intOf]
          · have HJx := Lib.hid hJx
            have Hq := Lib.hid hq
            clear hJx hq
            gi_wp2_with fail
            refine bodyPost_ret (results_none rfl _ _ _) rfl ?_
            exact ⟨⟨_, rfl⟩, .inr ⟨_, (show stepsTo g C rs t 3 ++ q <+: stepsL g C rs t from ((List.prefix_append_right_inj _).2 Hq.out).trans (by rw [← Hsu.out]; exact Hpx.out)), HJx.out⟩⟩
        · have hc := Lib.hid (hrule.out 4 141 (by decide) (by decide) rfl wr HJ.out HE.out hNr)
          have Hsu := Lib.hid (stepsTo_succ g C rs t 4)
          have Hpx := Lib.hid (stepsTo_prefix g C rs t 8 (4 + 1) (by decide))
          have hix : ∀ w, (Instr.index 152 (.agg stepTable) (.int .i64 4)).run Tryz.prog w = .ok (.func (.func 141) #[] #[]) w := fun _ => by kernel_rfl
          have hnq : ∀ w, (binOp .neq 151 (.func (.func 141) #[] #[]) .nilFunc).run Tryz.prog w = .ok (.bool true) w := fun _ => by kernel_rfl
          have hEn : ∀ (args : Array Value) (w : World), (callFunc 141 args).run Tryz.prog w = .ok (.enter 141 args) w := enters_of Tryz.func141 (by kernel_rfl) rfl
          gi_wp2_with fail
          refine ⟨trivial, fun h => (by cases h), (hc.out _).mono ?_⟩
          rintro e W3 (⟨rfl, hJ3, hK3⟩ | ⟨rfl, q, hq, hJx⟩)
          · have HJ3 := Lib.hid hJ3
            have HK3 := Lib.hid hK3
            clear hJ3 hK3
            gi_wp2_with fail
            go_roundw
            case rel => exact ⟨4 + 1, by omega, rfl, by rw [Hsu.out]; exact HJ3.out, ext_kpf HE.out HK3.out, HK.out.trans HK3.out, HS1.out.kept HK3.out, HS2.out.kept HK3.out⟩
            case measure => simp [intOf]
          · have HJx := Lib.hid hJx
            have Hq := Lib.hid hq
            clear hJx hq
            gi_wp2_with fail
            refine bodyPost_ret (results_none rfl _ _ _) rfl ?_
            exact ⟨⟨_, rfl⟩, .inr ⟨_, (show stepsTo g C rs t 4 ++ q <+: stepsL g C rs t from ((List.prefix_append_right_inj _).2 Hq.out).trans (by rw [← Hsu.out]; exact Hpx.out)), HJx.out⟩⟩
        · have hc := Lib.hid (hrule.out 5 142 (by decide) (by decide) rfl wr HJ.out HE.out hNr)
          have Hsu := Lib.hid (stepsTo_succ g C rs t 5)
          have Hpx := Lib.hid (stepsTo_prefix g C rs t 8 (5 + 1) (by decide))
          have hix : ∀ w, (Instr.index 152 (.agg stepTable) (.int .i64 5)).run Tryz.prog w = .ok (.func (.func 142) #[] #[]) w := fun _ => by kernel_rfl
          have hnq : ∀ w, (binOp .neq 151 (.func (.func 142) #[] #[]) .nilFunc).run Tryz.prog w = .ok (.bool true) w := fun _ => by kernel_rfl
          have hEn : ∀ (args : Array Value) (w : World), (callFunc 142 args).run Tryz.prog w = .ok (.enter 142 args) w := enters_of Tryz.func142 (by kernel_rfl) rfl
          gi_wp2_with fail
          refine ⟨trivial, fun h => (by cases h), (hc.out _).mono ?_⟩
          rintro e W3 (⟨rfl, hJ3, hK3⟩ | ⟨rfl, q, hq, hJx⟩)
          · have HJ3 := Lib.hid hJ3
            have HK3 := Lib.hid hK3
            clear hJ3 hK3
            gi_wp2_with fail
            go_roundw
            case rel => exact ⟨5 + 1, by omega, rfl, by rw [Hsu.out]; exact HJ3.out, ext_kpf HE.out HK3.out, HK.out.trans HK3.out, HS1.out.kept HK3.out, HS2.out.kept HK3.out⟩
            case measure => simp [intOf]
          · have HJx := Lib.hid hJx
            have Hq := Lib.hid hq
            clear hJx hq
            gi_wp2_with fail
            refine bodyPost_ret (results_none rfl _ _ _) rfl ?_
            exact ⟨⟨_, rfl⟩, .inr ⟨_, (show stepsTo g C rs t 5 ++ q <+: stepsL g C rs t from ((List.prefix_append_right_inj _).2 Hq.out).trans (by rw [← Hsu.out]; exact Hpx.out)), HJx.out⟩⟩
        · have hc := Lib.hid (hrule.out 6 143 (by decide) (by decide) rfl wr HJ.out HE.out hNr)
          have Hsu := Lib.hid (stepsTo_succ g C rs t 6)
          have Hpx := Lib.hid (stepsTo_prefix g C rs t 8 (6 + 1) (by decide))
          have hix : ∀ w, (Instr.index 152 (.agg stepTable) (.int .i64 6)).run Tryz.prog w = .ok (.func (.func 143) #[] #[]) w := fun _ => by kernel_rfl
          have hnq : ∀ w, (binOp .neq 151 (.func (.func 143) #[] #[]) .nilFunc).run Tryz.prog w = .ok (.bool true) w := fun _ => by kernel_rfl
          have hEn : ∀ (args : Array Value) (w : World), (callFunc 143 args).run Tryz.prog w = .ok (.enter 143 args) w := enters_of Tryz.func143 (by kernel_rfl) rfl
          gi_wp2_with fail
          refine ⟨trivial, fun h => (by cases h), (hc.out _).mono ?_⟩
          rintro e W3 (⟨rfl, hJ3, hK3⟩ | ⟨rfl, q, hq, hJx⟩)
          · have HJ3 := Lib.hid hJ3
            have HK3 := Lib.hid hK3
            clear hJ3 hK3
            gi_wp2_with fail
            go_roundw
            case rel => exact ⟨6 + 1, by omega, rfl, by rw [Hsu.out]; exact HJ3.out, ext_kpf HE.out HK3.out, HK.out.trans HK3.out, HS1.out.kept HK3.out, HS2.out.kept HK3.out⟩
            case measure => simp [intOf]
          · have HJx := Lib.hid hJx
            have Hq := Lib.hid hq
            clear hJx hq
            gi_wp2_with fail
            refine bodyPost_ret (results_none rfl _ _ _) rfl ?_
            exact ⟨⟨_, rfl⟩, .inr ⟨_, (show stepsTo g C rs t 6 ++ q <+: stepsL g C rs t from ((List.prefix_append_right_inj _).2 Hq.out).trans (by rw [← Hsu.out]; exact Hpx.out)), HJx.out⟩⟩
        · have hc := Lib.hid (hrule.out 7 144 (by decide) (by decide) rfl wr HJ.out HE.out hNr)
          have Hsu := Lib.hid (stepsTo_succ g C rs t 7)
          have Hpx := Lib.hid (stepsTo_prefix g C rs t 8 (7 + 1) (by decide))
          have hix : ∀ w, (Instr.index 152 (.agg stepTable) (.int .i64 7)).run Tryz.prog w = .ok (.func (.func 144) #[] #[]) w := fun _ => by kernel_rfl
          have hnq : ∀ w, (binOp .neq 151 (.func (.func 144) #[] #[]) .nilFunc).run Tryz.prog w = .ok (.bool true) w := fun _ => by kernel_rfl
          have hEn : ∀ (args : Array Value) (w : World), (callFunc 144 args).run Tryz.prog w = .ok (.enter 144 args) w := enters_of Tryz.func144 (by kernel_rfl) rfl
          gi_wp2_with fail
          refine ⟨trivial, fun h => (by cases h), (hc.out _).mono ?_⟩
          rintro e W3 (⟨rfl, hJ3, hK3⟩ | ⟨rfl, q, hq, hJx⟩)
          · have HJ3 := Lib.hid hJ3
            have HK3 := Lib.hid hK3
            clear hJ3 hK3
            gi_wp2_with fail
            go_roundw
            case rel => exact ⟨7 + 1, by omega, rfl, by rw [Hsu.out]; exact HJ3.out, ext_kpf HE.out HK3.out, HK.out.trans HK3.out, HS1.out.kept HK3.out, HS2.out.kept HK3.out⟩
            case measure => simp [intOf]
          · have HJx := Lib.hid hJx
            have Hq := Lib.hid hq
            clear hJx hq
            gi_wp2_with fail
            refine bodyPost_ret (results_none rfl _ _ _) rfl ?_
            exact ⟨⟨_, rfl⟩, .inr ⟨_, (show stepsTo g C rs t 7 ++ q <+: stepsL g C rs t from ((List.prefix_append_right_inj _).2 Hq.out).trans (by rw [← Hsu.out]; exact Hpx.out)), HJx.out⟩⟩
    · have : k = 8 := by omega
      subst this
      gi_wp2_with fail
      go_end0
      exact ⟨⟨_, rfl⟩, .inl ⟨_, rfl, HJ.out⟩⟩
end Go.Proofs.YtjffkeoajkhbmaaGreat
