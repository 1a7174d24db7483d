/- sub.Assign. Questions to no environment. sub.to: the steps by a rule to all types that are as is asked. What the rules ask of a type. The rules of sub, each of which yields steps. -/
import Derived.Sort.CutIn
import Derived.Test.YtjffkeoajkhbmaaGreatM12
import Derived.Test.YtjffkeoajkhbmaaGreatM6
namespace Go.Proofs.YtjffkeoajkhbmaaGreat
open Go.RowKit Go.Proofs
set_option linter.unusedSimpArgs false
def assignR (g : List Ty) (S : List Nat) (to_ from_ : Int) : Int × Int × Int × Int :=
  if askedR g.length [to_, from_] = 0 then
    (if (nth S from_.toNat).testBit to_.toNat then (1, 0, 0, 0)
    else if (spanR (nth g to_.toNat)).2.2 && (spanR (nth g from_.toNat)).2.2 && decide ((spanR (nth g to_.toNat)).1 ≤ (spanR (nth g from_.toNat)).2.1) && decide ((spanR (nth g from_.toNat)).1 ≤ (spanR (nth g to_.toNat)).2.1) then (2, (spanR (nth g to_.toNat)).1, (spanR (nth g to_.toNat)).2.1, 0)
    else if !isWordB (nth g to_.toNat).kind && !isWordB (nth g from_.toNat).kind && (nth S to_.toNat).testBit from_.toNat then (3, 0, 0, 0)
    else (0, 0, 0, 41))
  else (0, 0, 0, 1)
def AsBox (w : World) (b : Nat) (k l h : Int) : Prop := w.heap[b]? = some (Obj.cells #[.int .u8 k, .int .i64 l, .int .i64 h] 56 (0, 0))
theorem AsBox.new (w : World) : AsBox (w.alloc (.cells #[.int .u8 0, .int .i64 0, .int .i64 0] 56)) w.heap.size 0 0 0 := heap_alloc_new w _
theorem AsBox.lt {w : World} {b : Nat} {k l h : Int} (hb : AsBox w b k l h) : b < w.heap.size := (Array.getElem?_eq_some_iff.1 hb).1
theorem AsBox.ext {w w' : World} {b : Nat} {k l h : Int} (hb : AsBox w b k l h) (hE : Ext w w') : AsBox w' b k l h := (hE.block b hb.lt).trans hb
theorem AsBox.cell {w : World} {b : Nat} {k l h : Int} (hb : AsBox w b k l h) {j : Nat} {v : Value} (hj : (#[.int .u8 k, .int .i64 l, .int .i64 h] : Array Value)[j]? = some v) : w.cell? ⟨b, j, none⟩ = some v := cell_of_heap hb hj
theorem AsBox.free {w : World} {b : Nat} {k l h : Int} (hb : AsBox w b k l h) (j : Nat) : w.frozen? ⟨b, j, none⟩ = false := by
  unfold World.frozen?
  rw [show w.heap[(⟨b, j, none⟩ : Addr).block]? = _ from hb]
  simp
theorem AsBox.set3 {w : World} {b : Nat} {k l h : Int} (hb : AsBox w b k l h) (k' l' h' : Int) : AsBox (((w.setCell ⟨b, 0, none⟩ (.int .u8 k')).setCell ⟨b, 1, none⟩ (.int .i64 l')).setCell ⟨b, 2, none⟩ (.int .i64 h')) b k' l' h' := by
  unfold AsBox World.setCell
  simp only [Array.getElem?_modify, if_true]
  rw [show w.heap[b]? = _ from hb]
  simp
theorem ext_set3 {w w1 : World} {b : Nat} (hE : Ext w w1) (hb : w.heap.size ≤ b) (x y z : Value) : Ext w (((w1.setCell ⟨b, 0, none⟩ x).setCell ⟨b, 1, none⟩ y).setCell ⟨b, 2, none⟩ z) :=
  Below.setCell (Below.setCell (Below.setCell hE hb _) hb _) hb _
set_option maxHeartbeats 400000 in
theorem assignNil28 (a b : Int) (w : World) : Calls Tryz.prog 28 #[.pointer none, .int .i64 a, .int .i64 b] w fun e w' => e = .returned (.tuple #[.agg #[.int .u8 0, .int .i64 0, .int .i64 0], .int .i64 3]) ∧ Ext w w' := by
  go_enter Tryz.func28, Tryz.ntmps28
  go_wp2_with fail
  refine (askedNil47 _ _ _ _).mono ?_
  rintro e w1 ⟨rfl, hE⟩
  have HB := Lib.hid (AsBox.ext (AsBox.ext (AsBox.new w) (Ext.alloc _ _)) hE)
  have c0 := HB.out.cell (j := 0) rfl
  have c1 := HB.out.cell (j := 1) rfl
  have c2 := HB.out.cell (j := 2) rfl
  have f0 := HB.out.free 0
  have f1 := HB.out.free 1
  have f2 := HB.out.free 2
  have HE := Lib.hid (((Ext.alloc _ _).trans (Ext.alloc _ _)).trans hE); clear hE
  go_wp2_with fail
  obtain ⟨X, hX⟩ : ∃ X : World, X = (((w1.setCell ⟨w.heap.size, 0, none⟩ (.int .u8 0)).setCell ⟨w.heap.size, 1, none⟩ (.int .i64 0)).setCell ⟨w.heap.size, 2, none⟩ (.int .i64 0)) := ⟨_, rfl⟩
  have hXb := AsBox.set3 HB.out 0 0 0
  have hXe := ext_set3 HE.out (Nat.le_refl _) (.int .u8 0) (.int .i64 0) (.int .i64 0)
  rw [← hX] at hXb hXe ⊢
  have x0 := hXb.cell (j := 0) rfl
  have x1 := hXb.cell (j := 1) rfl
  have x2 := hXb.cell (j := 2) rfl
  refine bodyPost_ret (v := .tuple #[.agg #[.int .u8 0, .int .i64 0, .int .i64 0], .int .i64 3]) (by simp [results, Tryz.results28, go_sem, x0, x1, x2]) rfl ⟨rfl, hXe⟩
set_option maxHeartbeats 2000000 in
set_option maxRecDepth 100000 in
theorem assign28 (vb : Nat) (g : List Ty) (C : Nat → Nat) (rs : List Reveal) (S : List Nat) (gv cv rv av : Value) (hn : g.length ≤ 400) (hS : S.length = g.length) (a b : Int) (w : World) (hv : EnvW w vb g C rs S gv cv rv av)
    (hx : -9223372036854775808 ≤ a ∧ a ≤ 9223372036854775807) (hy : -9223372036854775808 ≤ b ∧ b ≤ 9223372036854775807) :
    Calls Tryz.prog 28 #[.pointer (some ⟨vb, 0, none⟩), .int .i64 a, .int .i64 b] w fun e w' =>
      e = .returned (.tuple #[.agg #[.int .u8 (assignR g S a b).1, .int .i64 (assignR g S a b).2.1, .int .i64 (assignR g S a b).2.2.1], .int .i64 (assignR g S a b).2.2.2]) ∧ Ext w w' := by
  have hE0 := (Ext.alloc w (.cells #[.int .u8 0, .int .i64 0, .int .i64 0] 56)).trans (Ext.alloc (w.alloc (.cells #[.int .u8 0, .int .i64 0, .int .i64 0] 56)) (.cells #[.int .i64 a, .int .i64 b] 3))
  have hl := ints_two (w.alloc (.cells #[.int .u8 0, .int .i64 0, .int .i64 0] 56)) a b hx hy
  rw [World.size_alloc] at hl
  obtain ⟨ga, gc, rfl, _⟩ := id hv.gr
  have hcall := Lib.hid (asked47 vb ga g.length gc hn _ 2 2 [a, b] _ (hE0.cell hv.c0) hl)
  have HB0 := Lib.hid (AsBox.ext (AsBox.new w) (Ext.alloc _ (.cells #[.int .i64 a, .int .i64 b] 3)))
  have HE0 := Lib.hid hE0; clear hE0 hl
  have Hv := Lib.hid hv; clear hv
  rcases askedR_cases g.length [a, b] with ⟨h0, hin⟩ | ⟨h0, _⟩
  · rw [h0] at hcall
    have h1 := hin a (by simp)
    have h2 := hin b (by simp)
    obtain ⟨an, rfl⟩ : ∃ an : Nat, a = an := ⟨a.toNat, (Int.toNat_of_nonneg h1.1).symm⟩
    obtain ⟨bn, rfl⟩ : ∃ bn : Nat, b = bn := ⟨b.toNat, (Int.toNat_of_nonneg h2.1).symm⟩
    have Hs := Lib.hid (show assignR g S an bn = if (nth S bn).testBit an then (1, 0, 0, 0)
      else if (spanR (nth g an)).2.2 && (spanR (nth g bn)).2.2 && decide ((spanR (nth g an)).1 ≤ (spanR (nth g bn)).2.1) && decide ((spanR (nth g bn)).1 ≤ (spanR (nth g an)).2.1) then (2, (spanR (nth g an)).1, (spanR (nth g an)).2.1, 0)
      else if !isWordB (nth g an).kind && !isWordB (nth g bn).kind && (nth S an).testBit bn then (3, 0, 0, 0) else (0, 0, 0, 41) by unfold assignR; rw [if_pos h0]; simp only [Int.toNat_natCast])
    have hal : an < g.length := by omega
    have hbl : bn < g.length := by omega
    clear h0 hin h1 h2
    go_enter Tryz.func28, Tryz.ntmps28
    go_wp2_with fail
    refine hcall.out.mono ?_
    rintro e w1 ⟨rfl, hE⟩
    have hv1 := EnvW.mono (HE0.out.trans hE) Hv.out
    have HB1 := Lib.hid (HB0.out.ext hE)
    have HE := Lib.hid (HE0.out.trans hE); clear hE
    have c4 := hv1.c4
    have hab := hv1.ab
    obtain ⟨aa, ac, rfl, _⟩ := id hab
    obtain ⟨sb, so, hso, hsl, hbb⟩ := BitsW.at hab (show bn < S.length by omega)
    obtain ⟨sb2, so2, hso2, _, hba⟩ := BitsW.at hab (show an < S.length by omega)
    subst hso
    cases hso2
    have hbd := (SlW.bound hab).2
    have Hbb := Lib.hid hbb
    have Hba := Lib.hid hba
    have Hv1 := Lib.hid hv1
    have hbS : bn < S.length := by omega
    have haS : an < S.length := by omega
    clear hv1 hab hbb hba
    go_wp2_with fail
    refine (has48 _ _ _ _ (by omega) _ Hbb.out).mono ?_
    rintro e w2 ⟨rfl, rfl⟩
    cases hfr : (nth S bn).testBit an
    rotate_left
    · have Hr := Lib.hid (show assignR g S an bn = (1, 0, 0, 0) by rw [Hs.out, if_pos hfr])
      clear hfr
      have e0 := HB1.out.cell (j := 0) rfl
      have e1 := HB1.out.cell (j := 1) rfl
      have e2 := HB1.out.cell (j := 2) rfl
      have f0 := HB1.out.free 0
      have f1 := HB1.out.free 1
      have f2 := HB1.out.free 2
      go_wp2_with fail
      obtain ⟨X, hX⟩ : ∃ X : World, X = (((w2.setCell ⟨w.heap.size, 0, none⟩ (.int .u8 1)).setCell ⟨w.heap.size, 1, none⟩ (.int .i64 0)).setCell ⟨w.heap.size, 2, none⟩ (.int .i64 0)) := ⟨_, rfl⟩
      have hXb := AsBox.set3 HB1.out 1 0 0
      have hXe := ext_set3 HE.out (Nat.le_refl _) (.int .u8 1) (.int .i64 0) (.int .i64 0)
      rw [← hX] at hXb hXe ⊢
      have x0 := hXb.cell (j := 0) rfl
      have x1 := hXb.cell (j := 1) rfl
      have x2 := hXb.cell (j := 2) rfl
      refine bodyPost_ret (v := .tuple #[.agg #[.int .u8 1, .int .i64 0, .int .i64 0], .int .i64 0]) (by simp [results, Tryz.results28, go_sem, x0, x1, x2]) rfl ⟨by rw [Hr.out], hXe⟩
    have Hfr := Lib.hid hfr; clear hfr
    have c0 := Hv1.out.c0
    obtain ⟨l, h, is, hsa⟩ : ∃ l h is, spanR (nth g an) = (l, h, is) := ⟨_, _, _, rfl⟩
    obtain ⟨m, M, was, hsb⟩ : ∃ l h is, spanR (nth g bn) = (l, h, is) := ⟨_, _, _, rfl⟩
    have ha61 := span61 vb ga g.length gc g an w2 c0 Hv1.out.gr hal
    rw [hsa] at ha61 Hs
    rw [hsb] at Hs
    have Hsb := Lib.hid hsb; clear hsb hsa
    have Ha61 := Lib.hid ha61; clear ha61
    simp only at Hs
    go_wp2_with fail
    refine Ha61.out.mono ?_
    rintro e w3 ⟨rfl, hE⟩
    have Hv2 := Lib.hid (EnvW.mono hE Hv1.out)
    have HB2 := Lib.hid (HB1.out.ext hE)
    have Hbb2 := Lib.hid (BitsAt.mono hE Hbb.out)
    have Hba2 := Lib.hid (BitsAt.mono hE Hba.out)
    have HE2 := Lib.hid (HE.out.trans hE); clear hE c0 c4
    have c0 := Hv2.out.c0
    have hb61 := span61 vb ga g.length gc g bn w3 c0 Hv2.out.gr hbl
    rw [Hsb.out] at hb61
    have Hb61 := Lib.hid hb61; clear hb61
    go_wp2_with fail
    refine Hb61.out.mono ?_
    rintro e w4 ⟨rfl, hE⟩
    have Hv3 := Lib.hid (EnvW.mono hE Hv2.out)
    have HB3 := Lib.hid (HB2.out.ext hE)
    have Hba3 := Lib.hid (BitsAt.mono hE Hba2.out)
    have HE3 := Lib.hid (HE2.out.trans hE); clear hE c0
    go_upto_region 8 with (fail)
    go_cut [47] (fun v wx => v = .bool (is && was && decide (l ≤ M) && decide (m ≤ h)) ∧ wx = w4)
    case first =>
      cases is
      · go_wp2_with fail
        go_meet
        exact ⟨by simp, rfl⟩
      cases was
      · go_wp2_with fail
        go_meet
        exact ⟨by simp, rfl⟩
      by_cases h1 : l ≤ M
      · by_cases h2 : m ≤ h
        · have Hb := Lib.hid (show true = (true && true && decide (l ≤ M) && decide (m ≤ h)) by simp [h1, h2])
          go_wp2_with fail
          go_meet
          exact ⟨by rw [← Hb.out], rfl⟩
        · have Hb := Lib.hid (show false = (true && true && decide (l ≤ M) && decide (m ≤ h)) by simp [h2])
          go_wp2_with fail
          go_meet
          exact ⟨by rw [← Hb.out], rfl⟩
      · have Hb := Lib.hid (show false = (true && true && decide (l ≤ M) && decide (m ≤ h)) by simp [h1])
        go_wp2_with fail
        go_meet
        exact ⟨by rw [← Hb.out], rfl⟩
    case rest =>
      obtain ⟨rfl, rfl⟩ := hcut
      cases hrng : (is && was && decide (l ≤ M) && decide (m ≤ h))
      rotate_left
      · have Hr := Lib.hid (show assignR g S an bn = (2, l, h, 0) by rw [Hs.out, if_neg (by rw [Hfr.out]; decide), if_pos hrng])
        clear hrng
        have e0 := HB3.out.cell (j := 0) rfl
        have e1 := HB3.out.cell (j := 1) rfl
        have e2 := HB3.out.cell (j := 2) rfl
        have f0 := HB3.out.free 0
        have f1 := HB3.out.free 1
        have f2 := HB3.out.free 2
        go_wp2_with fail
        obtain ⟨X, hX⟩ : ∃ X : World, X = (((wc.setCell ⟨w.heap.size, 0, none⟩ (.int .u8 2)).setCell ⟨w.heap.size, 1, none⟩ (.int .i64 l)).setCell ⟨w.heap.size, 2, none⟩ (.int .i64 h)) := ⟨_, rfl⟩
        have hXb := AsBox.set3 HB3.out 2 l h
        have hXe := ext_set3 HE3.out (Nat.le_refl _) (.int .u8 2) (.int .i64 l) (.int .i64 h)
        rw [← hX] at hXb hXe ⊢
        have x0 := hXb.cell (j := 0) rfl
        have x1 := hXb.cell (j := 1) rfl
        have x2 := hXb.cell (j := 2) rfl
        refine bodyPost_ret (v := .tuple #[.agg #[.int .u8 2, .int .i64 l, .int .i64 h], .int .i64 0]) (by simp [results, Tryz.results28, go_sem, x0, x1, x2]) rfl ⟨by rw [Hr.out], hXe⟩
      have Hrng := Lib.hid hrng; clear hrng
      have c0 := Hv3.out.c0
      have c1 := Hv3.out.c1
      have c4 := Hv3.out.c4
      obtain ⟨ca, cc, hcv, _⟩ := id Hv3.out.cl
      rw [hcv] at c1
      obtain ⟨cn, hcn⟩ : ∃ cn, cn = ((List.range g.length).map fun i => (C i : Int)).length := ⟨_, rfl⟩
      rw [← hcn] at c1 hcv
      have Hcv := Lib.hid hcv; clear hcv hcn
      go_upto_region 10 with (fail)
      go_cut [65] (fun v wx => v = .bool (!isWordB (nth g an).kind && !isWordB (nth g bn).kind && (nth S an).testBit bn) ∧ Hid (Ext wc wx))
      case first =>
        go_wp2_with fail
        refine (isWord62 ga g.length gc _ g an wc Hv3.out.gr hal ⟨ca, cn, cc, rfl⟩).mono ?_
        rintro e w5 ⟨rfl, hE5⟩
        cases hwa : isWordB (nth g an).kind
        rotate_left
        · have HE5 := Lib.hid hE5; clear hE5
          have Hwa := Lib.hid hwa; clear hwa
          go_wp2_with fail
          go_meet
          exact ⟨by rw [Hwa.out]; rfl, HE5.out⟩
        have c0 := hE5.cell c0
        have c1 := hE5.cell c1
        have c4 := hE5.cell c4
        have HE5 := Lib.hid hE5; clear hE5
        have Hwa := Lib.hid hwa; clear hwa
        go_wp2_with fail
        refine (isWord62 ga g.length gc _ g bn w5 (Graph.mono HE5.out Hv3.out.gr) hbl ⟨ca, cn, cc, rfl⟩).mono ?_
        rintro e w6 ⟨rfl, hE6⟩
        cases hwb : isWordB (nth g bn).kind
        rotate_left
        · have HE6 := Lib.hid (HE5.out.trans hE6); clear hE6
          have Hwb := Lib.hid hwb; clear hwb
          go_wp2_with fail
          go_meet
          exact ⟨by rw [Hwa.out, Hwb.out]; rfl, HE6.out⟩
        have c4 := hE6.cell c4
        have HE6 := Lib.hid (HE5.out.trans hE6); clear hE6
        have Hwb := Lib.hid hwb; clear hwb
        go_wp2_with fail
        refine (has48 _ _ _ _ (by omega) _ (BitsAt.mono HE6.out Hba3.out)).mono ?_
        rintro e w7 ⟨rfl, rfl⟩
        go_wp2_with fail
        go_meet
        exact ⟨by rw [Hwa.out, Hwb.out]; rfl, HE6.out⟩
      case rest =>
        obtain ⟨rfl, hE⟩ := hcut
        have HB4 := Lib.hid (HB3.out.ext hE.out)
        have HE4 := Lib.hid (HE3.out.trans hE.out)
        clear c0 c1 c4
        cases hnar : (!isWordB (nth g an).kind && !isWordB (nth g bn).kind && (nth S an).testBit bn)
        · have Hr := Lib.hid (show assignR g S an bn = (0, 0, 0, 41) by rw [Hs.out, if_neg (by rw [Hfr.out]; decide), if_neg (by rw [Hrng.out]; decide), if_neg (by rw [hnar]; decide)])
          clear hnar
          have e0 := HB4.out.cell (j := 0) rfl
          have e1 := HB4.out.cell (j := 1) rfl
          have e2 := HB4.out.cell (j := 2) rfl
          have f0 := HB4.out.free 0
          have f1 := HB4.out.free 1
          have f2 := HB4.out.free 2
          go_wp2_with fail
          obtain ⟨X, hX⟩ : ∃ X : World, X = (((wc.setCell ⟨w.heap.size, 0, none⟩ (.int .u8 0)).setCell ⟨w.heap.size, 1, none⟩ (.int .i64 0)).setCell ⟨w.heap.size, 2, none⟩ (.int .i64 0)) := ⟨_, rfl⟩
          have hXb := AsBox.set3 HB4.out 0 0 0
          have hXe := ext_set3 HE4.out (Nat.le_refl _) (.int .u8 0) (.int .i64 0) (.int .i64 0)
          rw [← hX] at hXb hXe ⊢
          have x0 := hXb.cell (j := 0) rfl
          have x1 := hXb.cell (j := 1) rfl
          have x2 := hXb.cell (j := 2) rfl
          refine bodyPost_ret (v := .tuple #[.agg #[.int .u8 0, .int .i64 0, .int .i64 0], .int .i64 41]) (by simp [results, Tryz.results28, go_sem, x0, x1, x2]) rfl ⟨by rw [Hr.out], hXe⟩
        · have Hr := Lib.hid (show assignR g S an bn = (3, 0, 0, 0) by rw [Hs.out, if_neg (by rw [Hfr.out]; decide), if_neg (by rw [Hrng.out]; decide), if_pos hnar])
          clear hnar
          have e0 := HB4.out.cell (j := 0) rfl
          have e1 := HB4.out.cell (j := 1) rfl
          have e2 := HB4.out.cell (j := 2) rfl
          have f0 := HB4.out.free 0
          have f1 := HB4.out.free 1
          have f2 := HB4.out.free 2
          go_wp2_with fail
          obtain ⟨X, hX⟩ : ∃ X : World, X = (((wc.setCell ⟨w.heap.size, 0, none⟩ (.int .u8 3)).setCell ⟨w.heap.size, 1, none⟩ (.int .i64 0)).setCell ⟨w.heap.size, 2, none⟩ (.int .i64 0)) := ⟨_, rfl⟩
          have hXb := AsBox.set3 HB4.out 3 0 0
          have hXe := ext_set3 HE4.out (Nat.le_refl _) (.int .u8 3) (.int .i64 0) (.int .i64 0)
          rw [← hX] at hXb hXe ⊢
          have x0 := hXb.cell (j := 0) rfl
          have x1 := hXb.cell (j := 1) rfl
          have x2 := hXb.cell (j := 2) rfl
          refine bodyPost_ret (v := .tuple #[.agg #[.int .u8 3, .int .i64 0, .int .i64 0], .int .i64 0]) (by simp [results, Tryz.results28, go_sem, x0, x1, x2]) rfl ⟨by rw [Hr.out], hXe⟩
  · rw [h0] at hcall
    have Hs := Lib.hid (show assignR g S a b = (0, 0, 0, 1) by unfold assignR; rw [if_neg (by rw [h0]; decide)])
    clear h0
    go_enter Tryz.func28, Tryz.ntmps28
    go_wp2_with fail
    refine hcall.out.mono ?_
    rintro e w1 ⟨rfl, hE⟩
    have HB := Lib.hid (HB0.out.ext hE)
    have c0 := HB.out.cell (j := 0) rfl
    have c1 := HB.out.cell (j := 1) rfl
    have c2 := HB.out.cell (j := 2) rfl
    have f0 := HB.out.free 0
    have f1 := HB.out.free 1
    have f2 := HB.out.free 2
    have HE := Lib.hid (HE0.out.trans hE); clear hE
    go_wp2_with fail
    obtain ⟨X, hX⟩ : ∃ X : World, X = (((w1.setCell ⟨w.heap.size, 0, none⟩ (.int .u8 0)).setCell ⟨w.heap.size, 1, none⟩ (.int .i64 0)).setCell ⟨w.heap.size, 2, none⟩ (.int .i64 0)) := ⟨_, rfl⟩
    have hXb := AsBox.set3 HB.out 0 0 0
    have hXe := ext_set3 HE.out (Nat.le_refl _) (.int .u8 0) (.int .i64 0) (.int .i64 0)
    rw [← hX] at hXb hXe ⊢
    have x0 := hXb.cell (j := 0) rfl
    have x1 := hXb.cell (j := 1) rfl
    have x2 := hXb.cell (j := 2) rfl
    refine bodyPost_ret (v := .tuple #[.agg #[.int .u8 0, .int .i64 0, .int .i64 0], .int .i64 1]) (by simp [results, Tryz.results28, go_sem, x0, x1, x2]) rfl ⟨by rw [Hs.out], hXe⟩
end Go.Proofs.YtjffkeoajkhbmaaGreat

namespace Go.Proofs.YtjffkeoajkhbmaaGreat
open Go.RowKit Go.Proofs
set_option linter.unusedSimpArgs false
set_option maxHeartbeats 400000 in
theorem lineNil26 (a : Int) (w : World) : Calls Tryz.prog 26 #[.pointer none, .int .i64 a] w fun e w' => e = .returned (.tuple #[.slice none 0 0, .int .i64 3]) ∧ Ext w w' := by
  go_enter Tryz.func26, Tryz.ntmps26
  go_wp2_with fail
  refine (askedNil47 _ _ _ _).mono ?_
  rintro e w1 ⟨rfl, hE⟩
  have HE := Lib.hid hE; clear hE
  go_wp2_with fail
  go_ret2
  exact ⟨rfl, by (repeat (first | exact Ext.refl _ | (refine Ext.trans ?_ (Hid.out (by assumption))) | (refine Ext.trans ?_ (Ext.alloc _ _)) | (refine Ext.trans ?_ (Ext.drew _)) | (refine below_drewN ?_ _)))⟩
set_option maxHeartbeats 400000 in
theorem firstNil67 (a : Int) (f : Value) (s : BA) (w : World) : Calls Tryz.prog 67 #[.pointer none, .int .i64 a, f, .string s] w fun e w' => e = .returned (.tuple #[.int .i64 0, .int .i64 0, .int .i64 3]) ∧ Ext w w' := by
  go_enter Tryz.func67, Tryz.ntmps67
  go_wp2_with fail
  refine (askedNil47 _ _ _ _).mono ?_
  rintro e w1 ⟨rfl, hE⟩
  have HE := Lib.hid hE; clear hE
  go_wp2_with fail
  go_ret3
  exact ⟨rfl, by (repeat (first | exact Ext.refl _ | (refine Ext.trans ?_ (Hid.out (by assumption))) | (refine Ext.trans ?_ (Ext.alloc _ _)) | (refine Ext.trans ?_ (Ext.drew _)) | (refine below_drewN ?_ _)))⟩
set_option maxHeartbeats 400000 in
theorem fieldNil31 (a : Int) (s : BA) (w : World) : Calls Tryz.prog 31 #[.pointer none, .int .i64 a, .string s] w fun e w' => e = .returned (.tuple #[.int .i64 0, .int .i64 0, .int .i64 3]) ∧ Ext w w' := by
  go_enter Tryz.func31, Tryz.ntmps31
  go_wp2_with fail
  refine (firstNil67 _ _ _ _).mono ?_
  rintro e w1 ⟨rfl, hE⟩
  have HE := Lib.hid hE; clear hE
  go_wp2_with fail
  go_ret3
  exact ⟨rfl, by (repeat (first | exact Ext.refl _ | (refine Ext.trans ?_ (Hid.out (by assumption))) | (refine Ext.trans ?_ (Ext.alloc _ _)) | (refine Ext.trans ?_ (Ext.drew _)) | (refine below_drewN ?_ _)))⟩
set_option maxHeartbeats 400000 in
theorem methodNil33 (a : Int) (s : BA) (w : World) : Calls Tryz.prog 33 #[.pointer none, .int .i64 a, .string s] w fun e w' => e = .returned (.tuple #[.int .i64 0, .int .i64 0, .int .i64 3]) ∧ Ext w w' := by
  go_enter Tryz.func33, Tryz.ntmps33
  go_wp2_with fail
  refine (firstNil67 _ _ _ _).mono ?_
  rintro e w1 ⟨rfl, hE⟩
  have HE := Lib.hid hE; clear hE
  go_wp2_with fail
  go_ret3
  exact ⟨rfl, by (repeat (first | exact Ext.refl _ | (refine Ext.trans ?_ (Hid.out (by assumption))) | (refine Ext.trans ?_ (Ext.alloc _ _)) | (refine Ext.trans ?_ (Ext.drew _)) | (refine below_drewN ?_ _)))⟩
set_option maxHeartbeats 400000 in
set_option maxRecDepth 100000 in
theorem deriveNil38 (a b : Int) (w : World) : Calls Tryz.prog 38 #[.pointer none, .int .i64 a, .int .i64 b] w fun e w' => e = .returned (.tuple #[.slice none 0 0, .bool false, .int .i64 3]) ∧ Ext w w' := by
  go_enter Tryz.func38, Tryz.ntmps38
  go_wp2_with fail
  go_step3
  go_wp2_with fail
  refine (askedNil47 _ _ _ _).mono ?_
  rintro e w1 ⟨rfl, hE⟩
  have HE := Lib.hid hE; clear hE
  go_wp2_with fail
  simp only [Exit.noGoto]
  go_ret3
  exact ⟨rfl, by (repeat (first | exact Ext.refl _ | (refine Ext.trans ?_ (Hid.out (by assumption))) | (refine Ext.trans ?_ (Ext.alloc _ _)) | (refine Ext.trans ?_ (Ext.drew _)) | (refine below_drewN ?_ _)))⟩
set_option maxHeartbeats 400000 in
set_option maxRecDepth 100000 in
theorem checkDeriveNil36 (a b : Int) (x : Option Addr) (n c : Nat) (w : World) : Calls Tryz.prog 36 #[.pointer none, .int .i64 a, .int .i64 b, .slice x n c] w fun e w' => e = .returned (.tuple #[.bool false, .int .i64 3]) ∧ Ext w w' := by
  go_enter Tryz.func36, Tryz.ntmps36
  go_wp2_with fail
  go_step3
  go_wp2_with fail
  refine (askedNil47 _ _ _ _).mono ?_
  rintro e w1 ⟨rfl, hE⟩
  have HE := Lib.hid hE; clear hE
  go_wp2_with fail
  simp only [Exit.noGoto]
  go_ret2
  exact ⟨rfl, by (repeat (first | exact Ext.refl _ | (refine Ext.trans ?_ (Hid.out (by assumption))) | (refine Ext.trans ?_ (Ext.alloc _ _)) | (refine Ext.trans ?_ (Ext.drew _)) | (refine below_drewN ?_ _)))⟩
end Go.Proofs.YtjffkeoajkhbmaaGreat

namespace Go.Proofs.YtjffkeoajkhbmaaGreat
open Go.RowKit Go.Proofs Go.Shelf
set_option linter.unusedSimpArgs false
attribute [local go_sem] Oper.semAt_some
theorem roundIn_any {a b : Nat} {P : Program} {l : Nat} {f : FuncId} {tmps : Array Value} {assign body : Code} {w : World} {R : Ending → World → Prop}
    (h : RoundIn Fence.wide a P l f tmps assign body w R) : RoundIn Fence.wide b P l f tmps assign body w R :=
  ⟨h.1, fun c cs _ => h.2 c cs (room_wide _)⟩
def OkStp (nV : Nat) (s : Stp) : Prop := s.rule ≤ 7 ∧ s.to_ < nV ∧ s.n < 60
def Yld (l n0 NN nV : Nat) (foot : World → Nat → Prop) (J Jx : List Stp → World → Prop) : Prop :=
  ∀ pre s W1, OkStp nV s → J pre W1 → pre.length < NN → ∃ fn tmps assign body, (Instr.yield l (encStp s)).run Tryz.prog W1 = .ok (.round l fn tmps assign body) W1 ∧
    ∀ m, RoundIn Fence.wide m Tryz.prog l fn tmps assign body W1 fun e W' => (e = .returned (.bool true) ∧ Hid (J (pre ++ [s]) W' ∧ KpF n0 foot W1 W')) ∨ (e = .returned (.bool false) ∧ Hid (Jx (pre ++ [s]) W'))
def YPost (n0 : Nat) (foot : World → Nat → Prop) (J Jx : List Stp → World → Prop) (pre xs : List Stp) (W : World) (e : Ending) (W' : World) : Prop :=
  (e = .returned (.bool true) ∧ J (pre ++ xs) W' ∧ KpF n0 foot W W') ∨ (e = .returned (.bool false) ∧ ∃ q, q <+: xs ∧ Jx (pre ++ q) W')
def toL (r n : Nat) (p : Nat → Bool) : List Stp := ((List.range n).filter p).map fun u => ⟨r, u, 0⟩
theorem toL_succ_hit (r k : Nat) (p : Nat → Bool) (h : p k = true) : toL r (k + 1) p = toL r k p ++ [⟨r, k, 0⟩] := by
  unfold toL; rw [filter_snoc, h]; simp
theorem toL_succ_miss (r k : Nat) (p : Nat → Bool) (h : p k = false) : toL r (k + 1) p = toL r k p := by
  unfold toL; rw [filter_snoc, h]; simp
theorem toL_len (r n : Nat) (p : Nat → Bool) : (toL r n p).length ≤ n := by
  unfold toL
  have := List.length_filter_le p (List.range n)
  simpa using this
theorem grown_of_ext {W W' : World} (h : Ext W W') : W.grownBy W' none := ⟨h.os, h.tape, h.output, h.size, fun j hj _ => h.block j hj⟩
theorem toL_prefix (r : Nat) (p : Nat → Bool) (n : Nat) : ∀ k, k ≤ n → toL r k p <+: toL r n p := by
  intro k hk
  induction n with
  | zero => rw [Nat.le_zero.1 hk]; exact List.prefix_refl _
  | succ n ih =>
    by_cases h : k = n + 1
    · rw [h]; exact List.prefix_refl _
    · refine (ih (by omega)).trans ?_
      cases hp : p n
      · rw [toL_succ_miss r n p hp]; exact List.prefix_refl _
      · rw [toL_succ_hit r n p hp]; exact List.prefix_append _ _
set_option maxRecDepth 100000 in
set_option maxHeartbeats 1000000 in
theorem to166 (N n0 NN nV l m : Nat) (foot : World → Nat → Prop) (hok : FootOk N foot) (J Jx : List Stp → World → Prop) (hY : Yld l n0 NN nV foot J Jx) (hJ : ∀ pre W W', J pre W → W.grownBy W' none → J pre W')
    (F : FuncId) (he : Enters Tryz.prog F) (cap : Array Value) (r vb : Nat) (hr : r ≤ 7) (ga : Option Addr) (n gc : Nat) (hn : n ≤ 400) (hnV : n ≤ nV) (p : Nat → Bool) (Inv : World → Prop)
    (hIK : ∀ W W', Inv W → KpF n0 foot W W' → Inv W') (hc0 : ∀ W, Inv W → W.cell? ⟨vb, 0, none⟩ = some (.slice ga n gc))
    (hF : ∀ u W1, u < n → Inv W1 → Calls Tryz.prog F (#[.int .i64 u] ++ cap) W1 fun e W2 => e = .returned (.bool (p u)) ∧ Ext W1 W2)
    (pre : List Stp) (hlen : pre.length + n ≤ NN) (W : World) (hN : N ≤ W.heap.size) (hn0 : n0 ≤ W.heap.size) (hI : Inv W) (h0 : J pre W) :
    CallsIn Fence.wide m Tryz.prog 166 #[.pointer (some ⟨vb, 0, none⟩), .int .u8 r, .func (.yield l) #[] #[], .func (.func F) #[] cap] W (YPost n0 foot J Jx pre (toL r n p) W) := by
  have c0 := hc0 W hI
  have HF := Lib.hid hF; clear hF
  have HY := Lib.hid hY; clear hY
  have HJ := Lib.hid hJ; clear hJ
  have HIK := Lib.hid hIK; clear hIK
  have HI := Lib.hid hI; clear hI
  have H0 := Lib.hid h0; clear h0 hc0
  refine callsIn_of_wp Tryz.func166 rfl trivial ?_ rfl
  simp only [Tryz.ntmps166, List.size_toArray, List.length_cons, List.length_nil, Nat.reduceAdd, Nat.reduceSub, Array.replicate_succ, Array.replicate_zero, List.push_toArray, List.append_toArray, List.nil_append, List.cons_append]
  gi_upto_region 2 with (fail)
  gi_loopw [9, 16] (fun _ i wr => ∃ k : Nat, k ≤ n ∧ i = .int .i64 k ∧ Hid (J (pre ++ toL r k p) wr ∧ Inv wr ∧ KpF n0 foot W wr)) (fun _ i _ => n - (intOf i).toNat)
  case atStart => exact ⟨0, Nat.zero_le _, rfl, by simpa [toL] using H0.out, HI.out, KpF.refl _ _ _⟩
  case round =>
    obtain ⟨k, hk, rfl, hH⟩ := hrel
    have H1 := Lib.hid hH.out.1
    have HI1 := Lib.hid hH.out.2.1
    have HK1 := Lib.hid hH.out.2.2
    clear hH
    by_cases hlt : k < n
    · have hEn : ∀ (args : Array Value) (w : World), (callFunc F args).run Tryz.prog w = .ok (.enter F args) w := he
      gi_wp2_with fail
      refine ⟨trivial, fun h => (by cases h), callsIn_wide.2 ((HF.out k wr hlt HI1.out).mono ?_)⟩
      rintro e w2 ⟨rfl, hE⟩
      have hsz := HK1.out.below.size
      have hK2 := KpF.ext (n := n0) hok (by omega) (by omega) hE
      have HJ2 := Lib.hid (HJ.out _ _ _ H1.out (grown_of_ext hE))
      have HI2 := Lib.hid (HIK.out _ _ HI1.out hK2)
      have HK2 := Lib.hid (HK1.out.trans hK2)
      clear hE hK2 hEn
      cases hp : p k
      · have Hs := Lib.hid (toL_succ_miss r k p hp)
        clear hp
        gi_wp2_with fail
        refine ⟨fun _ h => (by cases h), ?_⟩
        gi_wp2_with fail
        go_roundw
        case rel => exact ⟨k + 1, by omega, by go_num, by rw [Hs.out]; exact HJ2.out, HI2.out, HK2.out⟩
        case measure => simp [intOf]; omega
      · have Hs := Lib.hid (toL_succ_hit r k p hp)
        have hlk := toL_len r k p
        obtain ⟨fn, tmps, assign, body, hy, hR⟩ := HY.out (pre ++ toL r k p) ⟨r, k, 0⟩ w2 ⟨hr, by show k < nV; omega, by show 0 < 60; decide⟩ HJ2.out (by rw [List.length_append]; omega)
        have hy2 : (Instr.yield l #[.agg #[.int .u8 (r : Int), .int .i64 (k : Int), .int .i64 0]]).run Tryz.prog w2 = .ok (.round l fn tmps assign body) w2 := hy
        clear hy
        clear hp
        gi_wp2_with fail
        refine ⟨fun h => (by cases h), (hR _).mono ?_⟩
        rintro e W3 (⟨rfl, hH⟩ | ⟨rfl, hJx⟩)
        · gi_wp2_with fail
          go_roundw
          case rel => exact ⟨k + 1, by omega, by go_num, by rw [Hs.out, ← List.append_assoc]; exact hH.out.1, HIK.out _ _ HI2.out hH.out.2, HK2.out.trans hH.out.2⟩
          case measure => simp [intOf]; omega
        · gi_wp2_with fail
          go_ret
          exact Or.inr ⟨rfl, toL r (k + 1) p, toL_prefix r p n (k + 1) (by omega), by rw [Hs.out, ← List.append_assoc]; exact hJx.out⟩
    · have : k = n := by omega
      subst this
      gi_wp2_with fail
      go_ret
      exact Or.inl ⟨rfl, H1.out, HK1.out⟩
end Go.Proofs.YtjffkeoajkhbmaaGreat

namespace Go.Proofs.YtjffkeoajkhbmaaGreat
open Go.RowKit Go.Proofs
set_option linter.unusedSimpArgs false
set_option maxHeartbeats 400000 in
set_option maxRecDepth 100000 in
theorem same167 (u t b3 b4 vb : Nat) (ca : Option Addr) (n cc : Nat) (cl : List Int) (w : World) (hu : u < n) (ht : t < n)
    (h3 : w.cell? ⟨b3, 0, none⟩ = some (.pointer (some ⟨vb, 0, none⟩))) (h4 : w.cell? ⟨b4, 0, none⟩ = some (.int .i64 t)) (c1 : w.cell? ⟨vb, 1, none⟩ = some (.slice ca n cc)) (hc : Ints w (.slice ca n cc) cl) :
    Calls Tryz.prog 167 #[.int .i64 u, .pointer (some ⟨b3, 0, none⟩), .pointer (some ⟨b4, 0, none⟩)] w fun e w' => e = .returned (.bool (nth cl u == nth cl t)) ∧ Ext w w' := by
  have hb := (SlW.bound hc).2
  obtain ⟨ub, uo, hao, hul, d0, _⟩ := Ints.at hc hu
  obtain ⟨tb, toff, hbo, htl, d1, _⟩ := Ints.at hc ht
  subst hao
  cases hbo
  clear hc
  go_enter Tryz.func167, Tryz.ntmps167
  go_upto_region 1 with (fail)
  go_quiet (fail)
  go_wp2_with fail
  go_ret
  exact ⟨rfl, below_drewN (Ext.refl _) nq⟩
theorem enters167 : Enters Tryz.prog 167 := enters_of Tryz.func167 (by kernel_rfl) rfl
set_option maxHeartbeats 400000 in
theorem null169 (u b3 vb : Nat) (ga : Option Addr) (n gc : Nat) (ca : Option Addr) (cn cc : Nat) (g : List Ty) (w : World) (hu : u < n)
    (h3 : w.cell? ⟨b3, 0, none⟩ = some (.pointer (some ⟨vb, 0, none⟩))) (c0 : w.cell? ⟨vb, 0, none⟩ = some (.slice ga n gc)) (c1 : w.cell? ⟨vb, 1, none⟩ = some (.slice ca cn cc)) (hg : Graph w (.slice ga n gc) g) :
    Calls Tryz.prog 169 #[.int .i64 u, .pointer (some ⟨b3, 0, none⟩)] w fun e w' => e = .returned (.bool (!isWordB (nth g u).kind)) ∧ Ext w w' := by
  have Hc := Lib.hid (isWord62 ga n gc _ g u w hg hu ⟨ca, cn, cc, rfl⟩)
  clear hg
  go_enter Tryz.func169, Tryz.ntmps169
  go_wp2_with fail
  refine Hc.out.mono ?_
  rintro e w1 ⟨rfl, hE⟩
  have HE := Lib.hid hE; clear hE
  go_wp2_with fail
  go_ret
  exact ⟨rfl, HE.out⟩
theorem enters169 : Enters Tryz.prog 169 := enters_of Tryz.func169 (by kernel_rfl) rfl
def widerB (x y : Ty) : Bool := y.kind == 1 || (y.kind == 3 && decide (y.low ≤ x.low) && decide (x.high ≤ y.high))
set_option maxHeartbeats 400000 in
set_option maxRecDepth 100000 in
theorem wider168 (u b3 b7 vb : Nat) (ga : Option Addr) (n gc : Nat) (g : List Ty) (x : Ty) (w : World) (hu : u < n)
    (h3 : w.cell? ⟨b3, 0, none⟩ = some (.pointer (some ⟨vb, 0, none⟩))) (c0 : w.cell? ⟨vb, 0, none⟩ = some (.slice ga n gc)) (x1 : w.cell? ⟨b7, 1, none⟩ = some (.int .i64 x.low)) (x2 : w.cell? ⟨b7, 2, none⟩ = some (.int .i64 x.high)) (hg : Graph w (.slice ga n gc) g) :
    Calls Tryz.prog 168 #[.int .i64 u, .pointer (some ⟨b3, 0, none⟩), .pointer (some ⟨b7, 0, none⟩)] w fun e w' => e = .returned (.bool (widerB x (nth g u))) ∧ Ext w w' := by
  have hb := (SlW.bound hg).2
  have hx7 : b7 < w.heap.size := cell_lt x1
  obtain ⟨b, off, pa, pl, pc, ma, ml, mc, oa, ol, oc, rfl, hlt2, hT⟩ := Graph.at hg hu
  obtain ⟨d0, d1, d2, d3, d4, d5, d6, d7, d8, d9, _, _, _, _⟩ := hT
  clear hg
  have Hs := Lib.hid (show widerB x (nth g u) = ((nth g u).kind == 1 || ((nth g u).kind == 3 && decide ((nth g u).low ≤ x.low) && decide (x.high ≤ (nth g u).high))) from rfl)
  cases h1 : ((nth g u).kind == 1)
  · cases h2 : ((nth g u).kind == 3)
    · go_enter Tryz.func168, Tryz.ntmps168
      go_wp2
      go_ret
      exact ⟨ret_bool (by rw [Hs.out, h1, h2]; rfl), by (repeat (first | exact Ext.refl _ | (refine Ext.trans ?_ (Hid.out (by assumption))) | (refine Ext.trans ?_ (Ext.alloc _ _)) | (refine Ext.trans ?_ (Ext.drew _)) | (refine below_drewN ?_ _)))⟩
    · by_cases h4 : (nth g u).low ≤ x.low
      · have Hr := Lib.hid (show widerB x (nth g u) = decide (x.high ≤ (nth g u).high) by rw [Hs.out, h1, h2]; simp [h4])
        go_enter Tryz.func168, Tryz.ntmps168
        go_wp2
        all_goals go_ret
        all_goals exact ⟨ret_bool (by rw [Hr.out]; try simp [*]), by (repeat (first | exact Ext.refl _ | (refine Ext.trans ?_ (Hid.out (by assumption))) | (refine Ext.trans ?_ (Ext.alloc _ _)) | (refine Ext.trans ?_ (Ext.drew _)) | (refine below_drewN ?_ _)))⟩
      · have Hr := Lib.hid (show widerB x (nth g u) = false by rw [Hs.out, h1, h2]; simp [h4])
        go_enter Tryz.func168, Tryz.ntmps168
        go_wp2
        go_ret
        exact ⟨ret_bool Hr.out.symm, by (repeat (first | exact Ext.refl _ | (refine Ext.trans ?_ (Hid.out (by assumption))) | (refine Ext.trans ?_ (Ext.alloc _ _)) | (refine Ext.trans ?_ (Ext.drew _)) | (refine below_drewN ?_ _)))⟩
  · go_enter Tryz.func168, Tryz.ntmps168
    go_wp2
    go_ret
    exact ⟨ret_bool (by rw [Hs.out, h1]; rfl), by (repeat (first | exact Ext.refl _ | (refine Ext.trans ?_ (Hid.out (by assumption))) | (refine Ext.trans ?_ (Ext.alloc _ _)) | (refine Ext.trans ?_ (Ext.drew _)) | (refine below_drewN ?_ _)))⟩
theorem enters168 : Enters Tryz.prog 168 := enters_of Tryz.func168 (by kernel_rfl) rfl
set_option maxHeartbeats 400000 in
set_option maxRecDepth 100000 in
theorem any170 (u b5 b3 vb : Nat) (k : Int) (ga : Option Addr) (n gc : Nat) (g : List Ty) (w : World) (hu : u < n)
    (h5 : w.cell? ⟨b5, 0, none⟩ = some (.int .u8 k)) (h3 : w.cell? ⟨b3, 0, none⟩ = some (.pointer (some ⟨vb, 0, none⟩))) (c0 : w.cell? ⟨vb, 0, none⟩ = some (.slice ga n gc)) (hg : Graph w (.slice ga n gc) g) :
    Calls Tryz.prog 170 #[.int .i64 u, .pointer (some ⟨b5, 0, none⟩), .pointer (some ⟨b3, 0, none⟩)] w fun e w' => e = .returned (.bool (k != 0 && (nth g u).kind == k)) ∧ Ext w w' := by
  have hb := (SlW.bound hg).2
  obtain ⟨b, off, pa, pl, pc, ma, ml, mc, oa, ol, oc, rfl, hlt2, hT⟩ := Graph.at hg hu
  have d0 := hT.c0
  clear hg hT
  cases hk : (k == 0)
  · have hkn := Lib.hid (show (k != 0) = true by simp only [bne, hk]; rfl)
    have hkm := hkn.out
    go_enter Tryz.func170, Tryz.ntmps170
    go_upto_region 1 with (fail)
    refine wp_region_E 99 (by kernel_rfl) ?_
    change wpE _ _ _ _ _ _ _ _ (World.drew _)
    refine tE (i := 0) (v := ?_) (fun w9 hE => ?_) ?_
    rotate_left
    · have h5E := hE.cell h5; clear hE; first | (go_simp; done) | (go_simp; with_reducible rfl)
    simp only [Act.put, nm]
    refine tE (i := 1) (v := ?_) (fun w9 hE => ?_) ?_
    rotate_left
    · clear hE; first | (go_simp; done) | (go_simp; with_reducible rfl)
    simp only [Act.put, nm]
    refine tE (i := 2) (v := ?_) (fun w9 hE => ?_) ?_
    rotate_left
    · clear hE; first | (go_simp; done) | (go_simp; with_reducible rfl)
    simp only [Act.put, nm]
    refine tE (i := 3) (v := ?_) (fun w9 hE => ?_) ?_
    rotate_left
    · have h3E := hE.cell h3; clear hE; first | (go_simp; done) | (go_simp; with_reducible rfl)
    simp only [Act.put, nm]
    refine tE (i := 4) (v := ?_) (fun w9 hE => ?_) ?_
    rotate_left
    · clear hE; first | (go_simp; done) | (go_simp; with_reducible rfl)
    simp only [Act.put, nm]
    refine tE (i := 5) (v := ?_) (fun w9 hE => ?_) ?_
    rotate_left
    · clear hE; first | (go_simp; done) | (go_simp; with_reducible rfl)
    simp only [Act.put, nm]
    refine tE (i := 6) (v := ?_) (fun w9 hE => ?_) ?_
    rotate_left
    · clear hE; first | (go_simp; done) | (go_simp; with_reducible rfl)
    simp only [Act.put, nm]
    refine tE (i := 7) (v := ?_) (fun w9 hE => ?_) ?_
    rotate_left
    · have c0E := hE.cell c0; clear hE; first | (go_simp; done) | (go_simp; with_reducible rfl)
    simp only [Act.put, nm]
    refine tE (i := 8) (v := ?_) (fun w9 hE => ?_) ?_
    rotate_left
    · clear hE; first | (go_simp; done) | (go_simp; with_reducible rfl)
    simp only [Act.put, nm]
    refine tE (i := 9) (v := ?_) (fun w9 hE => ?_) ?_
    rotate_left
    · clear hE; first | (go_simp; done) | (go_simp; with_reducible rfl)
    simp only [Act.put, nm]
    refine tE (i := 10) (v := ?_) (fun w9 hE => ?_) ?_
    rotate_left
    · clear hE; first | (go_simp; done) | (go_simp; with_reducible rfl)
    simp only [Act.put, nm]
    refine tE (i := 11) (v := ?_) (fun w9 hE => ?_) ?_
    rotate_left
    · have d0E := hE.cell d0; clear hE; first | (go_simp; done) | (go_simp; with_reducible rfl)
    simp only [Act.put, nm]
    refine tE (i := 12) (v := ?_) (fun w9 hE => ?_) ?_
    rotate_left
    · have h5E := hE.cell h5; clear hE; first | (go_simp; done) | (go_simp; with_reducible rfl)
    simp only [Act.put, nm]
    refine tE (i := 13) (v := ?_) (fun w9 hE => ?_) ?_
    rotate_left
    · clear hE; first | (go_simp; done) | (go_simp; with_reducible rfl)
    simp only [Act.put, nm]
    refine tE (i := 14) (v := ?_) (fun w9 hE => ?_) ?_
    rotate_left
    · clear hE; first | (go_simp; done) | (go_simp; with_reducible rfl)
    simp only [Act.put, nm]
    refine tE (i := 15) (v := ?_) (fun w9 hE => ?_) ?_
    rotate_left
    · clear hE; first | (go_simp; done) | (go_simp; with_reducible rfl)
    simp only [Act.put, nm]
    refine wpE_done (by kernel_rfl) (by kernel_rfl) ?_
    go_wp2_with fail
    go_ret
    exact ⟨ret_bool (by rw [hkn.out, Bool.true_and]), Ext.drew _⟩
  · have hkn := Lib.hid (show (k != 0) = false by simp only [bne, hk]; rfl)
    have hkm := hkn.out
    go_enter Tryz.func170, Tryz.ntmps170
    go_upto_region 1 with (fail)
    refine wp_region_E 99 (by kernel_rfl) ?_
    change wpE _ _ _ _ _ _ _ _ (World.drew _)
    refine tE (i := 0) (v := ?_) (fun w9 hE => ?_) ?_
    rotate_left
    · have h5E := hE.cell h5; clear hE; first | (go_simp; done) | (go_simp; with_reducible rfl)
    simp only [Act.put, nm]
    refine tE (i := 1) (v := ?_) (fun w9 hE => ?_) ?_
    rotate_left
    · clear hE; first | (go_simp; done) | (go_simp; with_reducible rfl)
    simp only [Act.put, nm]
    refine tE (i := 2) (v := ?_) (fun w9 hE => ?_) ?_
    rotate_left
    · clear hE; first | (go_simp; done) | (go_simp; with_reducible rfl)
    simp only [Act.put, nm]
    refine wpE_take (i := 3) (v := undef) rfl (by kernel_rfl) (by kernel_rfl) (by kernel_rfl) (fun _ _ _ h => h) (Or.inr ⟨by kernel_rfl, rfl⟩) ?_
    simp only [Act.put, nm]
    refine wpE_take (i := 4) (v := undef) rfl (by kernel_rfl) (by kernel_rfl) (by kernel_rfl) (fun _ _ _ h => h) (Or.inr ⟨by kernel_rfl, rfl⟩) ?_
    simp only [Act.put, nm]
    refine wpE_take (i := 5) (v := undef) rfl (by kernel_rfl) (by kernel_rfl) (by kernel_rfl) (fun _ _ _ h => h) (Or.inr ⟨by kernel_rfl, rfl⟩) ?_
    simp only [Act.put, nm]
    refine wpE_take (i := 6) (v := undef) rfl (by kernel_rfl) (by kernel_rfl) (by kernel_rfl) (fun _ _ _ h => h) (Or.inr ⟨by kernel_rfl, rfl⟩) ?_
    simp only [Act.put, nm]
    refine wpE_take (i := 7) (v := undef) rfl (by kernel_rfl) (by kernel_rfl) (by kernel_rfl) (fun _ _ _ h => h) (Or.inr ⟨by kernel_rfl, rfl⟩) ?_
    simp only [Act.put, nm]
    refine wpE_take (i := 8) (v := undef) rfl (by kernel_rfl) (by kernel_rfl) (by kernel_rfl) (fun _ _ _ h => h) (Or.inr ⟨by kernel_rfl, rfl⟩) ?_
    simp only [Act.put, nm]
    refine wpE_take (i := 9) (v := undef) rfl (by kernel_rfl) (by kernel_rfl) (by kernel_rfl) (fun _ _ _ h => h) (Or.inr ⟨by kernel_rfl, rfl⟩) ?_
    simp only [Act.put, nm]
    refine wpE_take (i := 10) (v := undef) rfl (by kernel_rfl) (by kernel_rfl) (by kernel_rfl) (fun _ _ _ h => h) (Or.inr ⟨by kernel_rfl, rfl⟩) ?_
    simp only [Act.put, nm]
    refine wpE_take (i := 11) (v := undef) rfl (by kernel_rfl) (by kernel_rfl) (by kernel_rfl) (fun _ _ _ h => h) (Or.inr ⟨by kernel_rfl, rfl⟩) ?_
    simp only [Act.put, nm]
    refine wpE_take (i := 12) (v := undef) rfl (by kernel_rfl) (by kernel_rfl) (by kernel_rfl) (fun _ _ _ h => h) (Or.inr ⟨by kernel_rfl, rfl⟩) ?_
    simp only [Act.put, nm]
    refine wpE_take (i := 13) (v := undef) rfl (by kernel_rfl) (by kernel_rfl) (by kernel_rfl) (fun _ _ _ h => h) (Or.inr ⟨by kernel_rfl, rfl⟩) ?_
    simp only [Act.put, nm]
    refine tE (i := 14) (v := ?_) (fun w9 hE => ?_) ?_
    rotate_left
    · clear hE; first | (go_simp; done) | (go_simp; with_reducible rfl)
    simp only [Act.put, nm]
    refine tE (i := 15) (v := ?_) (fun w9 hE => ?_) ?_
    rotate_left
    · clear hE; first | (go_simp; done) | (go_simp; with_reducible rfl)
    simp only [Act.put, nm]
    refine wpE_done (by kernel_rfl) (by kernel_rfl) ?_
    go_wp2_with fail
    go_ret
    exact ⟨ret_bool (by rw [hkn.out]; rfl), Ext.drew _⟩
theorem enters170 : Enters Tryz.prog 170 := enters_of Tryz.func170 (by kernel_rfl) rfl
set_option maxHeartbeats 400000 in
theorem isAbove97 (ga : Option Addr) (n gc : Nat) (cv : Value) (g : List Ty) (t : Nat) (w : World) (hg : Graph w (.slice ga n gc) g) (ht : t < n) (hc : ∃ ca cn cc, cv = .slice ca cn cc) :
    Calls Tryz.prog 97 #[.agg #[.slice ga n gc, cv], .int .i64 t] w fun e w' => e = .returned (.bool (hasSuperB (nth g t).kind)) ∧ Ext w w' := by
  obtain ⟨ca, cn, cc, rfl⟩ := hc
  have hb := (SlW.bound hg).2
  obtain ⟨b, off, pa, pl, pc, ma, ml, mc, oa, ol, oc, rfl, hlt2, hT⟩ := Graph.at hg ht
  have c0 := hT.c0
  clear hT
  have Hg := Lib.hid hg; clear hg
  have Hs := Lib.hid (show hasSuperB (nth g t).kind = ((nth g t).kind == 12 || (nth g t).kind == 13) from rfl)
  obtain ⟨k, hk⟩ : ∃ k, k = (nth g t).kind := ⟨_, rfl⟩
  rw [← hk] at c0 Hs ⊢
  clear hk
  cases h1 : (k == 12)
  · cases h2 : (k == 13)
    all_goals go_enter Tryz.func97, Tryz.ntmps97
    all_goals go_wp2
    all_goals go_ret
    all_goals exact ⟨ret_bool (by rw [Hs.out, h1, h2]; rfl), by (repeat (first | exact Ext.refl _ | (refine Ext.trans ?_ (Hid.out (by assumption))) | (refine Ext.trans ?_ (Ext.alloc _ _)) | (refine Ext.trans ?_ (Ext.drew _)) | (refine below_drewN ?_ _)))⟩
  · go_enter Tryz.func97, Tryz.ntmps97
    go_wp2
    go_ret
    exact ⟨ret_bool (by rw [Hs.out, h1]; rfl), by (repeat (first | exact Ext.refl _ | (refine Ext.trans ?_ (Hid.out (by assumption))) | (refine Ext.trans ?_ (Ext.alloc _ _)) | (refine Ext.trans ?_ (Ext.drew _)) | (refine below_drewN ?_ _)))⟩
end Go.Proofs.YtjffkeoajkhbmaaGreat

namespace Go.Proofs.YtjffkeoajkhbmaaGreat
open Go.RowKit Go.Proofs Go.Shelf
set_option linter.unusedSimpArgs false
attribute [local go_sem] Oper.semAt_some
structure YCtx (N NN nV l : Nat) (w0 : World) (foot : World → Nat → Prop) (J Jx : List Stp → World → Prop) : Prop where
  ok : FootOk N foot
  Y : Yld l w0.heap.size NN nV foot J Jx
  gr : ∀ pre W W', J pre W → W.grownBy W' none → J pre W'
theorem ext_kpf {w0 W W' : World} {foot : World → Nat → Prop} (h : Ext w0 W) (k : KpF w0.heap.size foot W W') : Ext w0 W' := Below.trans h k.below
theorem YPost.step {n0 : Nat} {foot : World → Nat → Prop} {J Jx : List Stp → World → Prop} {pre xs : List Stp} {W W1 : World} (hk : KpF n0 foot W W1) {e : Ending} {W' : World} (h : YPost n0 foot J Jx pre xs W1 e W') : YPost n0 foot J Jx pre xs W e W' := by
  rcases h with ⟨a, b, c⟩ | h
  · exact Or.inl ⟨a, b, hk.trans c⟩
  · exact Or.inr h
set_option maxRecDepth 100000 in
set_option maxHeartbeats 1000000 in
theorem same138 {N NN nV l : Nat} {w0 : World} {foot : World → Nat → Prop} {J Jx : List Stp → World → Prop} (X : YCtx N NN nV l w0 foot J Jx) (m vb : Nat) (g : List Ty) (C : Nat → Nat) (rs : List Reveal) (S : List Nat) (gv cv rv av : Value) (hv : EnvW w0 vb g C rs S gv cv rv av)
    (hn : g.length ≤ 400) (hnV : g.length ≤ nV) (t : Nat) (ht : t < g.length) (pre : List Stp) (hlen : pre.length + g.length ≤ NN) (W : World) (hE : Ext w0 W) (hN : N ≤ W.heap.size) (h0 : J pre W) :
    CallsIn Fence.wide m Tryz.prog 138 #[.pointer (some ⟨vb, 0, none⟩), .int .i64 t, .func (.yield l) #[] #[]] W (YPost w0.heap.size foot J Jx pre (toL 1 g.length fun u => C u == C t) W) := by
  obtain ⟨ga, gc, rfl, _⟩ := id hv.gr
  obtain ⟨ca, cc, rfl, _⟩ := id hv.cl
  have hcl : ((List.range g.length).map fun i => (C i : Int)).length = g.length := by simp
  have hclass : ∀ u, u < g.length → nth ((List.range g.length).map fun i => (C i : Int)) u = (C u : Int) := fun u hu => by rw [nth_eq (by simpa using hu)]; simp
  have hE1 := Ext.alloc W (.cells #[.pointer (some ⟨vb, 0, none⟩)] 28)
  have hE2 := Ext.alloc (W.alloc (.cells #[.pointer (some ⟨vb, 0, none⟩)] 28)) (.cells #[.int .i64 t] 3)
  have hs3 : Safe foot ((W.alloc (.cells #[.pointer (some ⟨vb, 0, none⟩)] 28)).alloc (.cells #[.int .i64 t] 3)) W.heap.size #[.pointer (some ⟨vb, 0, none⟩)] 28 :=
    (Safe.new X.ok W hN _ _ (Or.inl (by decide))).ext X.ok (by simp; omega) hE2
  have hs4 : Safe foot ((W.alloc (.cells #[.pointer (some ⟨vb, 0, none⟩)] 28)).alloc (.cells #[.int .i64 t] 3)) (W.heap.size + 1) #[.int .i64 t] 3 := by
    have := Safe.new X.ok (W.alloc (.cells #[.pointer (some ⟨vb, 0, none⟩)] 28)) (by simp; omega) #[.int .i64 t] 3 (Or.inr (by simp))
    rwa [World.size_alloc] at this
  have hto := Lib.hid (to166 N w0.heap.size NN nV l (m - 1) foot X.ok J Jx X.Y X.gr 167 enters167 #[.pointer (some ⟨W.heap.size, 0, none⟩), .pointer (some ⟨W.heap.size + 1, 0, none⟩)] 1 vb (by decide) ga g.length gc hn hnV (fun u => C u == C t)
    (fun W' => Ext w0 W' ∧ Safe foot W' W.heap.size #[.pointer (some ⟨vb, 0, none⟩)] 28 ∧ Safe foot W' (W.heap.size + 1) #[.int .i64 t] 3)
    (fun A B h k => ⟨ext_kpf h.1 k, h.2.1.kept k, h.2.2.kept k⟩) (fun A h => h.1.cell hv.c0)
    (fun u A hu h => (same167 u t _ _ vb ca _ cc _ A (by rw [hcl]; exact hu) (by rw [hcl]; exact ht) (h.2.1.cell rfl) (h.2.2.cell rfl) (h.1.cell hv.c1) (Ints.mono h.1 hv.cl)).mono (fun e B h => ⟨by rw [h.1, hclass u hu, hclass t ht]; exact ret_bool (by rw [Bool.eq_iff_iff]; simp; omega), h.2⟩))
    pre hlen _ (by simp; omega) (by have := hE.size; simp; omega) ⟨hE.trans (hE1.trans hE2), hs3, hs4⟩ (X.gr _ _ _ h0 (grown_of_ext (hE1.trans hE2))))
  have HK := Lib.hid (KpF.ext X.ok (n := w0.heap.size) hE.size hN (hE1.trans hE2))
  clear hs3 hs4 hE1 hE2 hclass hcl
  refine callsIn_of_wp Tryz.func138 rfl trivial ?_ rfl
  simp only [Tryz.ntmps138, List.size_toArray, List.length_cons, List.length_nil, Nat.reduceAdd, Nat.reduceSub, Array.replicate_succ, Array.replicate_zero, List.push_toArray, List.append_toArray, List.nil_append, List.cons_append]
  gi_wp2_with fail
  refine ⟨trivial, fun h => (by cases h), hto.out.mono ?_⟩
  rintro e W3 hP
  have HP := Lib.hid hP
  rcases hP with ⟨rfl, _⟩ | ⟨rfl, _⟩
  · gi_wp2_with fail
    go_ret
    exact YPost.step HK.out HP.out
  · gi_wp2_with fail
    go_ret
    exact YPost.step HK.out HP.out
end Go.Proofs.YtjffkeoajkhbmaaGreat
