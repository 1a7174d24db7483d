/- sub.opened. -/
import Derived.Test.YtjffkeoajkhbmaaGreatM25
namespace Go.Proofs.YtjffkeoajkhbmaaGreat
open Go.RowKit Go.Proofs
set_option linter.unusedSimpArgs false
structure EnvO (w w' : World) (vb : Nat) (g : List Ty) (rs : List Reveal) (gv cv rv : Value) (mb : Nat) (m : List (BA × Value)) : Prop where
  ext : Ext w w'
  base : w.heap.size ≤ vb
  row : w'.heap[vb]? = some (.cells #[gv, cv, rv, .map (some mb), .slice none 0 0] 103 (0, 0))
  gr : Graph (only w' (fromB1 w.heap.size vb)) gv g
  cl : Ints (only w' (fun j => j != vb)) cv ((List.range g.length).map fun i => (classesOf g i : Int))
  re : Reveals (only w' (fromB1 w.heap.size vb)) rv rs
  mne : mb ≠ vb
  at_ : MapAt Value.string w' mb m
  rows : ∀ name, Ints (only w' (fromB1 w.heap.size vb)) ((alook name m).getD (.slice none 0 0)) (numsOf (byN rs rs.length name))
def OpPost (w : World) (g : List Ty) (rs : List Reveal) (e : Ending) (w' : World) : Prop :=
  (openE g rs = 0 ∧ ∃ vb gv cv rv mb m, e = .returned (.tuple #[.pointer (some ⟨vb, 0, none⟩), .int .i64 0]) ∧ EnvO w w' vb g rs gv cv rv mb m) ∨
  (openE g rs ≠ 0 ∧ e = .returned (.tuple #[.pointer none, .int .i64 (openE g rs)]) ∧ Ext w w')
set_option maxHeartbeats 8000000 in
set_option maxRecDepth 100000 in
theorem opened54 (a : Option Addr) (n c : Nat) (g : List Ty) (ra : Option Addr) (rn rc : Nat) (rs : List Reveal) (w : World) (hg : Graph w (.slice a n c) g) (hre : Reveals w (.slice ra rn rc) rs) :
    Calls Tryz.prog 54 #[.slice a n c, .slice ra rn rc] w (OpPost w g rs) := by
  have hcl := Lib.hid (classes83 a n c g w hg)
  obtain ⟨i0, hi, hz0, hz1, hz2⟩ := info_parts info3
  have hb := (SlW.bound hg).2
  have hrb := (SlW.bound hre).2
  obtain rfl := SlW.len hg
  obtain rfl := SlW.len hre
  have Hg := Lib.hid hg; clear hg
  have Hre := Lib.hid hre; clear hre
  go_enter Tryz.func54, Tryz.ntmps54
  go_wp2_with fail
  refine hcl.out.mono ?_
  rintro e w1 (⟨h0, r, rfl, hrow, hE⟩ | ⟨h0, rfl, hE⟩)
  rotate_left
  · have Hs := Lib.hid (openE_graph (rs := rs) h0)
    have HE := Lib.hid hE
    clear h0 hE
    go_wp2_with fail
    go_ret2
    exact Or.inr ⟨by rw [Hs.out]; decide, by rw [Hs.out]; rfl, HE.out⟩
  by_cases h6 : 60 < rs.length
  · have Hs := Lib.hid (openE_many h0 h6)
    have HE := Lib.hid hE
    have h6i : (60 : Int) < rs.length := by omega
    clear h0 hE hrow
    go_wp2_with fail
    go_ret2
    exact Or.inr ⟨by rw [Hs.out]; decide, by rw [Hs.out]; rfl, HE.out⟩
  obtain ⟨h400, hr⟩ : g.length ≤ 400 ∧ ∀ i, i < g.length → rightB g (nth g i) = true := by
    rcases checkB_cases g with ⟨_, h400, hr⟩ | h
    · exact ⟨h400, hr⟩
    · rw [h0] at h; cases h
  have H0 := Lib.hid h0
  have Hr := Lib.hid hr
  have Hrow := Lib.hid hrow
  have HE := Lib.hid hE
  have h6i : ¬ (60 : Int) < rs.length := by omega
  clear h0 hr hrow hE
  go_wp2_with fail
  refine (copied84 a _ c g w1 (Graph.mono HE.out Hg.out) h400 Hr.out).mono ?_
  rintro e w2 ⟨gv, rfl, hE, hgv⟩
  obtain ⟨gva, gvc, rfl, -⟩ := id hgv
  have Hgv := Lib.hid hgv
  have HE2 := Lib.hid hE
  clear hgv hE
  go_wp2_with fail
  refine (clone85 ra _ rc rs w2 (Reveals.mono (HE.out.trans HE2.out) Hre.out) (by omega)).mono ?_
  rintro e w3 ⟨rv, rfl, hE, hrv, f, hf, hown⟩
  obtain ⟨rva, rvc, rfl⟩ := owns_slice hown
  have Hown := Lib.hid hown
  have Hf := Lib.hid hf
  have HE3 := Lib.hid hE
  clear hf hown hrv hE
  have hmm := @run_makeMap Tryz.prog
  go_upto_region 9 with (fail)
  obtain ⟨mb, hmb⟩ : ∃ mb, mb = w3.heap.size := ⟨_, rfl⟩
  obtain ⟨vb, hvb⟩ : ∃ vb, vb = w3.heap.size + 1 := ⟨_, rfl⟩
  obtain ⟨mf, hmf⟩ : ∃ mf, mf = w3.heap.size + 1 + 1 := ⟨_, rfl⟩
  obtain ⟨W5, hW5⟩ : ∃ W5 : World, W5 = ((w3.alloc (.map #[] 0)).alloc (.cells #[.slice gva g.length gvc, .slice (some ⟨r, 0, none⟩) g.length g.length, .slice rva rs.length rvc, .map (some w3.heap.size), .slice none 0 0] 103)).alloc (.map #[] 0) := ⟨_, rfl⟩
  rw [← hW5, ← hmf, ← hvb, ← hmb]
  have hE5 : Ext w3 W5 := by rw [hW5]; exact ((Ext.alloc _ _).trans (Ext.alloc _ _)).trans (Ext.alloc _ _)
  have hsz5 : W5.heap.size = w3.heap.size + 3 := by rw [hW5]; simp
  have b1 : W5.heap[mb]? = some (.map #[] 0) := by rw [hW5, hmb]; exact ((Ext.alloc _ _).trans (Ext.alloc _ _)).block _ (by simp) |>.trans (heap_alloc_new _ _)
  have b2 : W5.heap[vb]? = some (.cells #[.slice gva g.length gvc, .slice (some ⟨r, 0, none⟩) g.length g.length, .slice rva rs.length rvc, .map (some mb), .slice none 0 0] 103 (0, 0)) := by
    rw [hW5, hvb, hmb]
    refine ((Ext.alloc _ _).block _ (by simp)).trans ?_
    have := heap_alloc_new (w3.alloc (.map #[] 0)) (.cells #[.slice gva g.length gvc, .slice (some ⟨r, 0, none⟩) g.length g.length, .slice rva rs.length rvc, .map (some w3.heap.size), .slice none 0 0] 103)
    rwa [World.size_alloc] at this
  have b3 : W5.heap[mf]? = some (.map #[] 0) := by
    rw [hW5, hmf]
    have := heap_alloc_new ((w3.alloc (.map #[] 0)).alloc (.cells #[.slice gva g.length gvc, .slice (some ⟨r, 0, none⟩) g.length g.length, .slice rva rs.length rvc, .map (some w3.heap.size), .slice none 0 0] 103)) (.map #[] 0)
    rwa [World.size_alloc, World.size_alloc] at this
  have hs1 := HE.out.size
  have hs2 := HE2.out.size
  have hs3 := HE3.out.size
  have hE05 := HE.out.trans (HE2.out.trans (HE3.out.trans hE5))
  have HI0 := Lib.hid (show OpInv w W5 W5 mb mf rs 0 0 [] from ⟨fun _ _ _ _ => rfl, hE05, Nat.le_refl _, by omega, by omega, by omega, fun a v hc => by
      constructor
      · intro e; unfold World.cell? at hc; rw [e, b1] at hc; simp at hc
      · intro e; unfold World.cell? at hc; rw [e, b3] at hc; simp at hc,
    ⟨_, _, b1, rfl⟩, fun name => World.ownsRow_nil _ _ _ _, fun n1 n2 b hn h => by simp [alook, Value.ownBlock] at h, ⟨[], ⟨_, _, b3, rfl⟩, fun name => rfl⟩⟩)
  have HE5 := Lib.hid hE5
  have HE05 := Lib.hid hE05
  have B2 := Lib.hid b2
  have HG5 := Lib.hid (show Graph W5 (.slice gva g.length gvc) g from Graph.le (only_le _ _) (Graph.le ((HE3.out.trans hE5).only _) Hgv.out))
  have Hmb := Lib.hid hmb
  have Hvb := Lib.hid hvb
  have Hmf := Lib.hid hmf
  clear hW5 hE5 b1 b2 b3 hE05 hmm hmb hvb hmf
  go_loopw [10, 11, 35] (fun _ _ i wr => ∃ k : Nat, k ≤ rs.length ∧ i = .int .i64 k ∧ Hid ((∃ m, OpInv w W5 wr mb mf rs k k m) ∧ ∀ j, j < k → badRev g rs j = false)) (fun _ _ i _ => rs.length - (intOf i).toNat)
  case atStart => exact ⟨0, Nat.zero_le _, rfl, ⟨_, HI0.out⟩, fun j hj => absurd hj (Nat.not_lt_zero _)⟩
  case round =>
    clear HI0
    obtain ⟨k, hk, rfl, hH⟩ := hrel
    obtain ⟨⟨m, hI⟩, hgood⟩ := hH.out
    clear hH
    have Hgood := Lib.hid hgood; clear hgood
    by_cases hlt : k < rs.length
    · obtain ⟨rb, roff, hro, hrl, d0, d1, d2, hnm, hty0, hty1⟩ := Reveals.at (Reveals.mono hI.ext Hre.out) hlt
      cases hro
      have c0 := hI.le _ _ (row_cell B2.out (j := 0) rfl)
      have c1 := hI.le _ _ (row_cell B2.out (j := 1) rfl)
      have c3 := hI.le _ _ (row_cell B2.out (j := 3) rfl)
      have hrl : ∀ name q, ((alook name m).getD (.slice none 0 0)).ownBlock = some q → q < wr.heap.size := fun name q e => ((hI.rows name).lt q e).2
      have HI := Lib.hid hI; clear hI
      by_cases hin : hasI g.length (nth rs k).type = true
      · obtain ⟨ht0, ht1⟩ := hasI_iff.1 hin
        obtain ⟨tn, htn⟩ : ∃ tn : Nat, (nth rs k).type = tn := ⟨(nth rs k).type.toNat, (Int.toNat_of_nonneg ht0).symm⟩
        have Htn := Lib.hid htn
        have htl : tn < g.length := by omega
        rw [htn] at d2
        have Hin := Lib.hid (show (decide ((0 : Int) ≤ (tn : Int)) && decide ((tn : Int) ≤ (g.length : Int) - 1)) = true by simp; omega)
        obtain ⟨b, off, pa, pl, pc, ma, ml, mc, oa, ol, oc, hgo, hgl, hT⟩ := Graph.at (Graph.mono HI.out.ext Hg.out) htl
        cases hgo
        have y0 := hT.c0
        have y3 := hT.c3
        have HT := Lib.hid hT
        clear hT htn ht0 ht1 hin hty0 hty1
        go_upto_region 11 with (fail)
        obtain ⟨W6, hW6⟩ : ∃ W6 : World, W6 = wr.alloc (.cells #[.string (nth rs k).name, .bool (nth rs k).full, .int .i64 tn] 43) := ⟨_, rfl⟩
        obtain ⟨bx, hbx⟩ : ∃ bx, bx = wr.heap.size := ⟨_, rfl⟩
        have hbn : W6.heap[bx]? = some (.cells #[.string (nth rs k).name, .bool (nth rs k).full, .int .i64 tn] 43 (0, 0)) := by rw [hW6, hbx]; exact heap_alloc_new _ _
        have hE6 : Ext wr W6 := by rw [hW6]; exact Ext.alloc _ _
        rw [← hW6, ← hbx]
        have Hrl := Lib.hid (show ∀ name q, ((alook name m).getD (.slice none 0 0)).ownBlock = some q → q < bx from fun name q e => by rw [hbx]; exact hrl name q e)
        clear hrl
        have x0 := row_cell hbn (j := 0) rfl
        have x1 := row_cell hbn (j := 1) rfl
        have x2 := row_cell hbn (j := 2) rfl
        have c0 := hE6.cell c0
        have c1 := hE6.cell c1
        have c3 := hE6.cell c3
        have y0 := hE6.cell y0
        have y3 := hE6.cell y3
        have HEx := Lib.hid (HI.out.ext.trans hE6)
        have HI6 := Lib.hid (HI.out.grow hE6)
        clear HI hW6 hbx hbn hE6 d0 d1 d2
        have HI := HI6
        have hwr : IntKind.i64.wrap ((g.length : Int) - 1) = (g.length : Int) - 1 := by rw [IntKind.wrap_i64]; omega
        refine wp_region_E 99 (by kernel_rfl) ?_
        change wpE _ _ _ _ _ _ _ _ (World.drew _)
        refine tE (i := 0) (v := ?_) (fun w9 hE => ?_) ?_
        rotate_left
        · clear hE; first | (go_simp; done) | (go_simp; with_reducible rfl)
        simp only [Act.put, nm]
        refine tE (i := 1) (v := ?_) (fun w9 hE => ?_) ?_
        rotate_left
        · have x0E := hE.cell x0; clear hE; first | (go_simp; done) | (go_simp; with_reducible rfl)
        simp only [Act.put, nm]
        refine wpE_only (i := 2) rfl (by kernel_rfl) (by kernel_rfl) (fun K hK => ?_)
        go_simp
        refine (isSymbol86 _ hnm _).mono ?_
        rintro e W7 ⟨rfl, hE⟩
        have hE' := (Ext.drew W6).trans hE
        have x0 := hE'.cell x0
        have x1 := hE'.cell x1
        have x2 := hE'.cell x2
        have c0 := hE'.cell c0
        have c1 := hE'.cell c1
        have c3 := hE'.cell c3
        have y0 := hE'.cell y0
        have y3 := hE'.cell y3
        have HI := Lib.hid (HI.out.grow hE')
        refine hK _ _ (hE) ?_; clear hK K
        clear hE hE'
        cases hs1 : isSymbolB (nth rs k).name
        ·
          refine tE (i := 3) (v := ?_) (fun w9 hE => ?_) ?_
          rotate_left
          · clear hE; first | (go_simp; done) | (go_simp; with_reducible rfl)
          simp only [Act.put, nm]
          refine tE (i := 4) (v := ?_) (fun w9 hE => ?_) ?_
          rotate_left
          · clear hE; first | (go_simp; done) | (go_simp; with_reducible rfl)
          simp only [Act.put, nm]
          refine wpE_take (i := 5) (v := undef) rfl (by kernel_rfl) (by kernel_rfl) (by kernel_rfl) (fun _ _ _ h => h) (Or.inr ⟨by kernel_rfl, rfl⟩) ?_
          simp only [Act.put, nm]
          refine wpE_take (i := 6) (v := undef) rfl (by kernel_rfl) (by kernel_rfl) (by kernel_rfl) (fun _ _ _ h => h) (Or.inr ⟨by kernel_rfl, rfl⟩) ?_
          simp only [Act.put, nm]
          refine wpE_take (i := 7) (v := undef) rfl (by kernel_rfl) (by kernel_rfl) (by kernel_rfl) (fun _ _ _ h => h) (Or.inr ⟨by kernel_rfl, rfl⟩) ?_
          simp only [Act.put, nm]
          refine wpE_take (i := 8) (v := undef) rfl (by kernel_rfl) (by kernel_rfl) (by kernel_rfl) (fun _ _ _ h => h) (Or.inr ⟨by kernel_rfl, rfl⟩) ?_
          simp only [Act.put, nm]
          refine wpE_take (i := 9) (v := undef) rfl (by kernel_rfl) (by kernel_rfl) (by kernel_rfl) (fun _ _ _ h => h) (Or.inr ⟨by kernel_rfl, rfl⟩) ?_
          simp only [Act.put, nm]
          refine wpE_take (i := 10) (v := undef) rfl (by kernel_rfl) (by kernel_rfl) (by kernel_rfl) (fun _ _ _ h => h) (Or.inr ⟨by kernel_rfl, rfl⟩) ?_
          simp only [Act.put, nm]
          refine wpE_take (i := 11) (v := undef) rfl (by kernel_rfl) (by kernel_rfl) (by kernel_rfl) (fun _ _ _ h => h) (Or.inr ⟨by kernel_rfl, rfl⟩) ?_
          simp only [Act.put, nm]
          refine tE (i := 12) (v := ?_) (fun w9 hE => ?_) ?_
          rotate_left
          · clear hE; first | (go_simp; done) | (go_simp; with_reducible rfl)
          simp only [Act.put, nm]
          refine tE (i := 13) (v := ?_) (fun w9 hE => ?_) ?_
          rotate_left
          · clear hE; first | (go_simp; done) | (go_simp; with_reducible rfl)
          simp only [Act.put, nm]
          refine wpE_take (i := 14) (v := undef) rfl (by kernel_rfl) (by kernel_rfl) (by kernel_rfl) (fun _ _ _ h => h) (Or.inr ⟨by kernel_rfl, rfl⟩) ?_
          simp only [Act.put, nm]
          refine wpE_take (i := 15) (v := undef) rfl (by kernel_rfl) (by kernel_rfl) (by kernel_rfl) (fun _ _ _ h => h) (Or.inr ⟨by kernel_rfl, rfl⟩) ?_
          simp only [Act.put, nm]
          refine wpE_take (i := 16) (v := undef) rfl (by kernel_rfl) (by kernel_rfl) (by kernel_rfl) (fun _ _ _ h => h) (Or.inr ⟨by kernel_rfl, rfl⟩) ?_
          simp only [Act.put, nm]
          refine wpE_take (i := 17) (v := undef) rfl (by kernel_rfl) (by kernel_rfl) (by kernel_rfl) (fun _ _ _ h => h) (Or.inr ⟨by kernel_rfl, rfl⟩) ?_
          simp only [Act.put, nm]
          refine wpE_take (i := 18) (v := undef) rfl (by kernel_rfl) (by kernel_rfl) (by kernel_rfl) (fun _ _ _ h => h) (Or.inr ⟨by kernel_rfl, rfl⟩) ?_
          simp only [Act.put, nm]
          refine wpE_take (i := 19) (v := undef) rfl (by kernel_rfl) (by kernel_rfl) (by kernel_rfl) (fun _ _ _ h => h) (Or.inr ⟨by kernel_rfl, rfl⟩) ?_
          simp only [Act.put, nm]
          refine wpE_take (i := 20) (v := undef) rfl (by kernel_rfl) (by kernel_rfl) (by kernel_rfl) (fun _ _ _ h => h) (Or.inr ⟨by kernel_rfl, rfl⟩) ?_
          simp only [Act.put, nm]
          refine tE (i := 21) (v := ?_) (fun w9 hE => ?_) ?_
          rotate_left
          · clear hE; first | (go_simp; done) | (go_simp; with_reducible rfl)
          simp only [Act.put, nm]
          refine tE (i := 22) (v := ?_) (fun w9 hE => ?_) ?_
          rotate_left
          · clear hE; first | (go_simp; done) | (go_simp; with_reducible rfl)
          simp only [Act.put, nm]
          refine wpE_take (i := 23) (v := undef) rfl (by kernel_rfl) (by kernel_rfl) (by kernel_rfl) (fun _ _ _ h => h) (Or.inr ⟨by kernel_rfl, rfl⟩) ?_
          simp only [Act.put, nm]
          refine wpE_take (i := 24) (v := undef) rfl (by kernel_rfl) (by kernel_rfl) (by kernel_rfl) (fun _ _ _ h => h) (Or.inr ⟨by kernel_rfl, rfl⟩) ?_
          simp only [Act.put, nm]
          refine wpE_take (i := 25) (v := undef) rfl (by kernel_rfl) (by kernel_rfl) (by kernel_rfl) (fun _ _ _ h => h) (Or.inr ⟨by kernel_rfl, rfl⟩) ?_
          simp only [Act.put, nm]
          refine wpE_take (i := 26) (v := undef) rfl (by kernel_rfl) (by kernel_rfl) (by kernel_rfl) (fun _ _ _ h => h) (Or.inr ⟨by kernel_rfl, rfl⟩) ?_
          simp only [Act.put, nm]
          refine wpE_take (i := 27) (v := undef) rfl (by kernel_rfl) (by kernel_rfl) (by kernel_rfl) (fun _ _ _ h => h) (Or.inr ⟨by kernel_rfl, rfl⟩) ?_
          simp only [Act.put, nm]
          refine wpE_take (i := 28) (v := undef) rfl (by kernel_rfl) (by kernel_rfl) (by kernel_rfl) (fun _ _ _ h => h) (Or.inr ⟨by kernel_rfl, rfl⟩) ?_
          simp only [Act.put, nm]
          refine wpE_take (i := 29) (v := undef) rfl (by kernel_rfl) (by kernel_rfl) (by kernel_rfl) (fun _ _ _ h => h) (Or.inr ⟨by kernel_rfl, rfl⟩) ?_
          simp only [Act.put, nm]
          refine tE (i := 30) (v := ?_) (fun w9 hE => ?_) ?_
          rotate_left
          · clear hE; first | (go_simp; done) | (go_simp; with_reducible rfl)
          simp only [Act.put, nm]
          refine tE (i := 31) (v := ?_) (fun w9 hE => ?_) ?_
          rotate_left
          · clear hE; first | (go_simp; done) | (go_simp; with_reducible rfl)
          simp only [Act.put, nm]
          refine wpE_take (i := 32) (v := undef) rfl (by kernel_rfl) (by kernel_rfl) (by kernel_rfl) (fun _ _ _ h => h) (Or.inr ⟨by kernel_rfl, rfl⟩) ?_
          simp only [Act.put, nm]
          refine wpE_take (i := 33) (v := undef) rfl (by kernel_rfl) (by kernel_rfl) (by kernel_rfl) (fun _ _ _ h => h) (Or.inr ⟨by kernel_rfl, rfl⟩) ?_
          simp only [Act.put, nm]
          refine wpE_take (i := 34) (v := undef) rfl (by kernel_rfl) (by kernel_rfl) (by kernel_rfl) (fun _ _ _ h => h) (Or.inr ⟨by kernel_rfl, rfl⟩) ?_
          simp only [Act.put, nm]
          refine wpE_take (i := 35) (v := undef) rfl (by kernel_rfl) (by kernel_rfl) (by kernel_rfl) (fun _ _ _ h => h) (Or.inr ⟨by kernel_rfl, rfl⟩) ?_
          simp only [Act.put, nm]
          refine wpE_take (i := 36) (v := undef) rfl (by kernel_rfl) (by kernel_rfl) (by kernel_rfl) (fun _ _ _ h => h) (Or.inr ⟨by kernel_rfl, rfl⟩) ?_
          simp only [Act.put, nm]
          refine wpE_take (i := 37) (v := undef) rfl (by kernel_rfl) (by kernel_rfl) (by kernel_rfl) (fun _ _ _ h => h) (Or.inr ⟨by kernel_rfl, rfl⟩) ?_
          simp only [Act.put, nm]
          refine wpE_take (i := 38) (v := undef) rfl (by kernel_rfl) (by kernel_rfl) (by kernel_rfl) (fun _ _ _ h => h) (Or.inr ⟨by kernel_rfl, rfl⟩) ?_
          simp only [Act.put, nm]
          refine wpE_take (i := 39) (v := undef) rfl (by kernel_rfl) (by kernel_rfl) (by kernel_rfl) (fun _ _ _ h => h) (Or.inr ⟨by kernel_rfl, rfl⟩) ?_
          simp only [Act.put, nm]
          refine wpE_take (i := 40) (v := undef) rfl (by kernel_rfl) (by kernel_rfl) (by kernel_rfl) (fun _ _ _ h => h) (Or.inr ⟨by kernel_rfl, rfl⟩) ?_
          simp only [Act.put, nm]
          refine wpE_take (i := 41) (v := undef) rfl (by kernel_rfl) (by kernel_rfl) (by kernel_rfl) (fun _ _ _ h => h) (Or.inr ⟨by kernel_rfl, rfl⟩) ?_
          simp only [Act.put, nm]
          refine wpE_take (i := 42) (v := undef) rfl (by kernel_rfl) (by kernel_rfl) (by kernel_rfl) (fun _ _ _ h => h) (Or.inr ⟨by kernel_rfl, rfl⟩) ?_
          simp only [Act.put, nm]
          refine wpE_take (i := 43) (v := undef) rfl (by kernel_rfl) (by kernel_rfl) (by kernel_rfl) (fun _ _ _ h => h) (Or.inr ⟨by kernel_rfl, rfl⟩) ?_
          simp only [Act.put, nm]
          refine wpE_take (i := 44) (v := undef) rfl (by kernel_rfl) (by kernel_rfl) (by kernel_rfl) (fun _ _ _ h => h) (Or.inr ⟨by kernel_rfl, rfl⟩) ?_
          simp only [Act.put, nm]
          refine wpE_take (i := 45) (v := undef) rfl (by kernel_rfl) (by kernel_rfl) (by kernel_rfl) (fun _ _ _ h => h) (Or.inr ⟨by kernel_rfl, rfl⟩) ?_
          simp only [Act.put, nm]
          refine wpE_take (i := 46) (v := undef) rfl (by kernel_rfl) (by kernel_rfl) (by kernel_rfl) (fun _ _ _ h => h) (Or.inr ⟨by kernel_rfl, rfl⟩) ?_
          simp only [Act.put, nm]
          refine wpE_take (i := 47) (v := undef) rfl (by kernel_rfl) (by kernel_rfl) (by kernel_rfl) (fun _ _ _ h => h) (Or.inr ⟨by kernel_rfl, rfl⟩) ?_
          simp only [Act.put, nm]
          refine wpE_take (i := 48) (v := undef) rfl (by kernel_rfl) (by kernel_rfl) (by kernel_rfl) (fun _ _ _ h => h) (Or.inr ⟨by kernel_rfl, rfl⟩) ?_
          simp only [Act.put, nm]
          refine tE (i := 49) (v := ?_) (fun w9 hE => ?_) ?_
          rotate_left
          · clear hE; first | (go_simp; done) | (go_simp; with_reducible rfl)
          simp only [Act.put, nm]
          refine wpE_done (by kernel_rfl) (by kernel_rfl) ?_
          have Hs := Lib.hid (openE_bad H0.out h6 hlt (show badRev g rs k = true by unfold badRev; rw [hs1]; rfl))
          have HX := Lib.hid HI.out.ext
          clear HI
          go_wp2_with fail
          go_ret2
          exact Or.inr ⟨by rw [Hs.out]; decide, by rw [Hs.out]; rfl, HX.out⟩
        ·
          refine tE (i := 3) (v := ?_) (fun w9 hE => ?_) ?_
          rotate_left
          · clear hE; first | (go_simp; done) | (go_simp; with_reducible rfl)
          simp only [Act.put, nm]
          refine tE (i := 4) (v := ?_) (fun w9 hE => ?_) ?_
          rotate_left
          · clear hE; first | (go_simp; done) | (go_simp; with_reducible rfl)
          simp only [Act.put, nm]
          refine tE (i := 5) (v := ?_) (fun w9 hE => ?_) ?_
          rotate_left
          · clear hE; first | (go_simp; done) | (go_simp; with_reducible rfl)
          simp only [Act.put, nm]
          refine tE (i := 6) (v := ?_) (fun w9 hE => ?_) ?_
          rotate_left
          · have x2E := hE.cell x2; clear hE; first | (go_simp; done) | (go_simp; with_reducible rfl)
          simp only [Act.put, nm]
          refine tE (i := 7) (v := ?_) (fun w9 hE => ?_) ?_
          rotate_left
          · clear hE; first | (go_simp; done) | (go_simp; with_reducible rfl)
          simp only [Act.put, nm]
          refine tE (i := 8) (v := ?_) (fun w9 hE => ?_) ?_
          rotate_left
          · clear hE; first | (go_simp; done) | (go_simp; with_reducible rfl)
          simp only [Act.put, nm]
          refine tE (i := 9) (v := ?_) (fun w9 hE => ?_) ?_
          rotate_left
          · clear hE; first | (go_simp; done) | (go_simp; with_reducible rfl)
          simp only [Act.put, nm]
          refine wpE_only (i := 10) rfl (by kernel_rfl) (by kernel_rfl) (fun K hK => ?_)
          go_simp
          refine (in81 _ _ _ _).mono ?_
          rintro e W8 ⟨rfl, rfl⟩
          rw [Hin.out]
          refine hK _ _ ((Ext.refl _)) ?_; clear hK K
          refine tE (i := 11) (v := ?_) (fun w9 hE => ?_) ?_
          rotate_left
          · clear hE; first | (go_simp; done) | (go_simp; with_reducible rfl)
          simp only [Act.put, nm]
          refine tE (i := 12) (v := ?_) (fun w9 hE => ?_) ?_
          rotate_left
          · clear hE; first | (go_simp; done) | (go_simp; with_reducible rfl)
          simp only [Act.put, nm]
          refine tE (i := 13) (v := ?_) (fun w9 hE => ?_) ?_
          rotate_left
          · clear hE; first | (go_simp; done) | (go_simp; with_reducible rfl)
          simp only [Act.put, nm]
          refine tE (i := 14) (v := ?_) (fun w9 hE => ?_) ?_
          rotate_left
          · clear hE; first | (go_simp; done) | (go_simp; with_reducible rfl)
          simp only [Act.put, nm]
          refine tE (i := 15) (v := ?_) (fun w9 hE => ?_) ?_
          rotate_left
          · clear hE; first | (go_simp; done) | (go_simp; with_reducible rfl)
          simp only [Act.put, nm]
          refine tE (i := 16) (v := ?_) (fun w9 hE => ?_) ?_
          rotate_left
          · clear hE; first | (go_simp; done) | (go_simp; with_reducible rfl)
          simp only [Act.put, nm]
          refine tE (i := 17) (v := ?_) (fun w9 hE => ?_) ?_
          rotate_left
          · have c0E := hE.cell c0; have c1E := hE.cell c1; clear hE; first | (go_simp; done) | (go_simp; with_reducible rfl)
          simp only [Act.put, nm]
          refine tE (i := 18) (v := ?_) (fun w9 hE => ?_) ?_
          rotate_left
          · clear hE; first | (go_simp; done) | (go_simp; with_reducible rfl)
          simp only [Act.put, nm]
          refine tE (i := 19) (v := ?_) (fun w9 hE => ?_) ?_
          rotate_left
          · have x2E := hE.cell x2; clear hE; first | (go_simp; done) | (go_simp; with_reducible rfl)
          simp only [Act.put, nm]
          clear hwr
          refine wpE_only (i := 20) rfl (by kernel_rfl) (by kernel_rfl) (fun K hK => ?_)
          go_simp
          refine (isWord62 gva g.length gvc _ g tn _ (Graph.le HI.out.le HG5.out) htl ⟨_, _, _, rfl⟩).mono ?_
          rintro e W9 ⟨rfl, hE⟩
          have x0 := hE.cell x0
          have x1 := hE.cell x1
          have x2 := hE.cell x2
          have c0 := hE.cell c0
          have c1 := hE.cell c1
          have c3 := hE.cell c3
          have y0 := hE.cell y0
          have y3 := hE.cell y3
          have HI := Lib.hid (HI.out.grow hE)
          refine hK _ _ (hE) ?_; clear hK K
          clear hE
          cases hs3 : isWordB (nth g tn).kind
          ·
            refine tE (i := 21) (v := ?_) (fun w9 hE => ?_) ?_
            rotate_left
            · clear hE; first | (go_simp; done) | (go_simp; with_reducible rfl)
            simp only [Act.put, nm]
            refine tE (i := 22) (v := ?_) (fun w9 hE => ?_) ?_
            rotate_left
            · clear hE; first | (go_simp; done) | (go_simp; with_reducible rfl)
            simp only [Act.put, nm]
            refine tE (i := 23) (v := ?_) (fun w9 hE => ?_) ?_
            rotate_left
            · clear hE; first | (go_simp; done) | (go_simp; with_reducible rfl)
            simp only [Act.put, nm]
            refine tE (i := 24) (v := ?_) (fun w9 hE => ?_) ?_
            rotate_left
            · clear hE; first | (go_simp; done) | (go_simp; with_reducible rfl)
            simp only [Act.put, nm]
            refine tE (i := 25) (v := ?_) (fun w9 hE => ?_) ?_
            rotate_left
            · have x2E := hE.cell x2; clear hE; first | (go_simp; done) | (go_simp; with_reducible rfl)
            simp only [Act.put, nm]
            refine tE (i := 26) (v := ?_) (fun w9 hE => ?_) ?_
            rotate_left
            · clear hE; first | (go_simp; done) | (go_simp; with_reducible rfl)
            simp only [Act.put, nm]
            refine tE (i := 27) (v := ?_) (fun w9 hE => ?_) ?_
            rotate_left
            · clear hE; first | (go_simp; done) | (go_simp; with_reducible rfl)
            simp only [Act.put, nm]
            refine tE (i := 28) (v := ?_) (fun w9 hE => ?_) ?_
            rotate_left
            · have y0E := hE.cell y0; clear hE; first | (go_simp; done) | (go_simp; with_reducible rfl)
            simp only [Act.put, nm]
            cases h5 : ((nth g tn).kind == 5)
            ·
              refine tE (i := 29) (v := ?_) (fun w9 hE => ?_) ?_
              rotate_left
              · clear hE; first | (go_simp; done) | (go_simp; with_reducible rfl)
              simp only [Act.put, nm]
              refine tE (i := 30) (v := ?_) (fun w9 hE => ?_) ?_
              rotate_left
              · clear hE; first | (go_simp; done) | (go_simp; with_reducible rfl)
              simp only [Act.put, nm]
              refine tE (i := 31) (v := ?_) (fun w9 hE => ?_) ?_
              rotate_left
              · clear hE; first | (go_simp; done) | (go_simp; with_reducible rfl)
              simp only [Act.put, nm]
              refine tE (i := 32) (v := ?_) (fun w9 hE => ?_) ?_
              rotate_left
              · clear hE; first | (go_simp; done) | (go_simp; with_reducible rfl)
              simp only [Act.put, nm]
              cases hf : (nth rs k).full
              ·
                rw [hf] at x1
                refine tE (i := 33) (v := ?_) (fun w9 hE => ?_) ?_
                rotate_left
                · have x1E := hE.cell x1; clear hE; first | (go_simp; done) | (go_simp; with_reducible rfl)
                simp only [Act.put, nm]
                refine tE (i := 34) (v := ?_) (fun w9 hE => ?_) ?_
                rotate_left
                · clear hE; first | (go_simp; done) | (go_simp; with_reducible rfl)
                simp only [Act.put, nm]
                refine wpE_take (i := 35) (v := undef) rfl (by kernel_rfl) (by kernel_rfl) (by kernel_rfl) (fun _ _ _ h => h) (Or.inr ⟨by kernel_rfl, rfl⟩) ?_
                simp only [Act.put, nm]
                refine wpE_take (i := 36) (v := undef) rfl (by kernel_rfl) (by kernel_rfl) (by kernel_rfl) (fun _ _ _ h => h) (Or.inr ⟨by kernel_rfl, rfl⟩) ?_
                simp only [Act.put, nm]
                refine wpE_take (i := 37) (v := undef) rfl (by kernel_rfl) (by kernel_rfl) (by kernel_rfl) (fun _ _ _ h => h) (Or.inr ⟨by kernel_rfl, rfl⟩) ?_
                simp only [Act.put, nm]
                refine wpE_take (i := 38) (v := undef) rfl (by kernel_rfl) (by kernel_rfl) (by kernel_rfl) (fun _ _ _ h => h) (Or.inr ⟨by kernel_rfl, rfl⟩) ?_
                simp only [Act.put, nm]
                refine wpE_take (i := 39) (v := undef) rfl (by kernel_rfl) (by kernel_rfl) (by kernel_rfl) (fun _ _ _ h => h) (Or.inr ⟨by kernel_rfl, rfl⟩) ?_
                simp only [Act.put, nm]
                refine wpE_take (i := 40) (v := undef) rfl (by kernel_rfl) (by kernel_rfl) (by kernel_rfl) (fun _ _ _ h => h) (Or.inr ⟨by kernel_rfl, rfl⟩) ?_
                simp only [Act.put, nm]
                refine wpE_take (i := 41) (v := undef) rfl (by kernel_rfl) (by kernel_rfl) (by kernel_rfl) (fun _ _ _ h => h) (Or.inr ⟨by kernel_rfl, rfl⟩) ?_
                simp only [Act.put, nm]
                refine wpE_take (i := 42) (v := undef) rfl (by kernel_rfl) (by kernel_rfl) (by kernel_rfl) (fun _ _ _ h => h) (Or.inr ⟨by kernel_rfl, rfl⟩) ?_
                simp only [Act.put, nm]
                refine wpE_take (i := 43) (v := undef) rfl (by kernel_rfl) (by kernel_rfl) (by kernel_rfl) (fun _ _ _ h => h) (Or.inr ⟨by kernel_rfl, rfl⟩) ?_
                simp only [Act.put, nm]
                refine wpE_take (i := 44) (v := undef) rfl (by kernel_rfl) (by kernel_rfl) (by kernel_rfl) (fun _ _ _ h => h) (Or.inr ⟨by kernel_rfl, rfl⟩) ?_
                simp only [Act.put, nm]
                refine wpE_take (i := 45) (v := undef) rfl (by kernel_rfl) (by kernel_rfl) (by kernel_rfl) (fun _ _ _ h => h) (Or.inr ⟨by kernel_rfl, rfl⟩) ?_
                simp only [Act.put, nm]
                refine wpE_take (i := 46) (v := undef) rfl (by kernel_rfl) (by kernel_rfl) (by kernel_rfl) (fun _ _ _ h => h) (Or.inr ⟨by kernel_rfl, rfl⟩) ?_
                simp only [Act.put, nm]
                refine wpE_take (i := 47) (v := undef) rfl (by kernel_rfl) (by kernel_rfl) (by kernel_rfl) (fun _ _ _ h => h) (Or.inr ⟨by kernel_rfl, rfl⟩) ?_
                simp only [Act.put, nm]
                refine tE (i := 48) (v := ?_) (fun w9 hE => ?_) ?_
                rotate_left
                · clear hE; first | (go_simp; done) | (go_simp; with_reducible rfl)
                simp only [Act.put, nm]
                refine tE (i := 49) (v := ?_) (fun w9 hE => ?_) ?_
                rotate_left
                · clear hE; first | (go_simp; done) | (go_simp; with_reducible rfl)
                simp only [Act.put, nm]
                refine wpE_done (by kernel_rfl) (by kernel_rfl) ?_
                cases hfb : fullB rs k (nth rs k).name
                ·
                  have hgood1 := Lib.hid (show badRev g rs k = false by unfold badRev; rw [Htn.out, Int.toNat_natCast, hs1, hs3, h5, hf, show hasI g.length (tn : Int) = true from hasI_iff.2 ⟨by omega, by omega⟩]; rfl)
                  have hlook := HI.out.lookFull (nth rs k).name
                  rw [hfb] at hlook
                  obtain ⟨Wf, hrun, hIf, hgf⟩ := HI.out.setFull false (by rw [hfb, hf]; rfl)
                  have hlef := cellLe_map HI.out.full hgf
                  have HIf := Lib.hid hIf
                  have Hlef := Lib.hid hlef
                  clear hIf hgf hlef
                  go_upto_region 14 with (fail)
                  have x0 := Hlef.out _ _ x0
                  have c3 := Hlef.out _ _ c3
                  clear hlook hrun HI x1 x2 c0 c1 y0 y3 hs1 hs3 h5 hf hfb
                  obtain ⟨vl, hvl⟩ : ∃ vl, vl = (alook (nth rs k).name m).getD (.slice none 0 0) := ⟨_, rfl⟩
                  have Hvl := Lib.hid hvl
                  clear hvl
                  have HS := Lib.hid (show (World.drew Wf).cell? ⟨bx, 0, none⟩ = some (.string (nth rs k).name) ∧ (World.drew Wf).cell? ⟨vb, 3, none⟩ = some (.map (some mb)) ∧ MapAt Value.string (World.drew Wf) mb m from ⟨(Ext.drew Wf).cell x0, (Ext.drew Wf).cell c3, HIf.out.at_.ext (Ext.drew Wf)⟩)
                  refine wp_region_L [16] (fun u => u.cell? ⟨bx, 0, none⟩ = some (.string (nth rs k).name) ∧ u.cell? ⟨vb, 3, none⟩ = some (.map (some mb)) ∧ MapAt Value.string u mb m) (by kernel_rfl) ?_
                  change wpL _ _ _ _ _ _ _ _ _ (World.drew _)
                  refine wpL_pure (i := 0) (v := ?_) rfl (by kernel_rfl) (by kernel_rfl) (by kernel_rfl) (by kernel_rfl) (fun _ _ _ h => h) (Or.inl ⟨by kernel_rfl, fun w9 _ => ?_⟩) HS.out ?_
                  rotate_left
                  · first | (go_simp; done) | (go_simp; with_reducible rfl)
                  simp only [Act.put, nm]
                  refine wpL_pure (i := 1) (v := ?_) rfl (by kernel_rfl) (by kernel_rfl) (by kernel_rfl) (by kernel_rfl) (fun _ _ _ h => h) (Or.inl ⟨by kernel_rfl, fun w9 _ => ?_⟩) HS.out ?_
                  rotate_left
                  · first | (go_simp; done) | (go_simp; with_reducible rfl)
                  simp only [Act.put, nm]
                  refine wpL_pure (i := 2) (v := ?_) rfl (by kernel_rfl) (by kernel_rfl) (by kernel_rfl) (by kernel_rfl) (fun _ _ _ h => h) (Or.inl ⟨by kernel_rfl, fun w9 _ => ?_⟩) HS.out ?_
                  rotate_left
                  · first | (go_simp; done) | (go_simp; with_reducible rfl)
                  simp only [Act.put, nm]
                  refine wpL_read (i := 3) (v := ?_) rfl (by kernel_rfl) (by kernel_rfl) (by kernel_rfl) (by kernel_rfl) (fun _ _ _ h => h) (Or.inl ⟨by kernel_rfl, fun w9 hE => ?_⟩) HS.out ?_
                  rotate_left
                  · have c39 := hE.2.1; clear hE; first | (go_simp; done) | (go_simp; with_reducible rfl)
                  simp only [Act.put, nm]
                  refine wpL_pure (i := 4) (v := ?_) rfl (by kernel_rfl) (by kernel_rfl) (by kernel_rfl) (by kernel_rfl) (fun _ _ _ h => h) (Or.inl ⟨by kernel_rfl, fun w9 _ => ?_⟩) HS.out ?_
                  rotate_left
                  · first | (go_simp; done) | (go_simp; with_reducible rfl)
                  simp only [Act.put, nm]
                  refine wpL_read (i := 5) (v := ?_) rfl (by kernel_rfl) (by kernel_rfl) (by kernel_rfl) (by kernel_rfl) (fun _ _ _ h => h) (Or.inl ⟨by kernel_rfl, fun w9 hE => ?_⟩) HS.out ?_
                  rotate_left
                  · have x09 := hE.1; clear hE; first | (go_simp; done) | (go_simp; with_reducible rfl)
                  simp only [Act.put, nm]
                  refine wpL_pure (i := 6) (v := ?_) rfl (by kernel_rfl) (by kernel_rfl) (by kernel_rfl) (by kernel_rfl) (fun _ _ _ h => h) (Or.inl ⟨by kernel_rfl, fun w9 _ => ?_⟩) HS.out ?_
                  rotate_left
                  · first | (go_simp; done) | (go_simp; with_reducible rfl)
                  simp only [Act.put, nm]
                  refine wpL_pure (i := 7) (v := ?_) rfl (by kernel_rfl) (by kernel_rfl) (by kernel_rfl) (by kernel_rfl) (fun _ _ _ h => h) (Or.inl ⟨by kernel_rfl, fun w9 _ => ?_⟩) HS.out ?_
                  rotate_left
                  · first | (go_simp; done) | (go_simp; with_reducible rfl)
                  simp only [Act.put, nm]
                  refine wpL_pure (i := 8) (v := ?_) rfl (by kernel_rfl) (by kernel_rfl) (by kernel_rfl) (by kernel_rfl) (fun _ _ _ h => h) (Or.inl ⟨by kernel_rfl, fun w9 _ => ?_⟩) HS.out ?_
                  rotate_left
                  · first | (go_simp; done) | (go_simp; with_reducible rfl)
                  simp only [Act.put, nm]
                  refine wpL_read (i := 9) (v := ?_) rfl (by kernel_rfl) (by kernel_rfl) (by kernel_rfl) (by kernel_rfl) (fun _ _ _ h => h) (Or.inl ⟨by kernel_rfl, fun w9 hE => ?_⟩) HS.out ?_
                  rotate_left
                  · have c39 := hE.2.1; clear hE; first | (go_simp; done) | (go_simp; with_reducible rfl)
                  simp only [Act.put, nm]
                  refine wpL_pure (i := 10) (v := ?_) rfl (by kernel_rfl) (by kernel_rfl) (by kernel_rfl) (by kernel_rfl) (fun _ _ _ h => h) (Or.inl ⟨by kernel_rfl, fun w9 _ => ?_⟩) HS.out ?_
                  rotate_left
                  · first | (go_simp; done) | (go_simp; with_reducible rfl)
                  simp only [Act.put, nm]
                  refine wpL_read (i := 11) (v := ?_) rfl (by kernel_rfl) (by kernel_rfl) (by kernel_rfl) (by kernel_rfl) (fun _ _ _ h => h) (Or.inl ⟨by kernel_rfl, fun w9 hE => ?_⟩) HS.out ?_
                  rotate_left
                  · have x09 := hE.1; clear hE; first | (go_simp; done) | (go_simp; with_reducible rfl)
                  simp only [Act.put, nm]
                  refine wpL_read (i := 12) (v := ?_) rfl (by kernel_rfl) (by kernel_rfl) (by kernel_rfl) (by kernel_rfl) (fun _ _ _ h => h) (Or.inl ⟨by kernel_rfl, fun w9 hE => ?_⟩) HS.out ?_
                  rotate_left
                  · have hb9 := hE.2.2.lookup Tryz.underlying100 keyString (nth rs k).name zero35; rw [← Hvl.out] at hb9; clear hE; first | (go_simp; done) | (go_simp; with_reducible rfl)
                  simp only [Act.put, nm]
                  refine wpL_pure (i := 13) (v := ?_) rfl (by kernel_rfl) (by kernel_rfl) (by kernel_rfl) (by kernel_rfl) (fun _ _ _ h => h) (Or.inl ⟨by kernel_rfl, fun w9 _ => ?_⟩) HS.out ?_
                  rotate_left
                  · first | (go_simp; done) | (go_simp; with_reducible rfl)
                  simp only [Act.put, nm]
                  refine wpL_only (i := 14) rfl (by kernel_rfl) (fun K hK => ?_)
                  go_simp
                  have HIb := Lib.hid (HIf.out.grow ((Ext.drew Wf).trans (Ext.alloc _ (.cells #[.int .i64 k] 3))))
                  have HS := Lib.hid (show ((World.drew Wf).alloc (.cells #[.int .i64 k] 3)).cell? ⟨bx, 0, none⟩ = some (.string (nth rs k).name) ∧ ((World.drew Wf).alloc (.cells #[.int .i64 k] 3)).cell? ⟨vb, 3, none⟩ = some (.map (some mb)) ∧ MapAt Value.string ((World.drew Wf).alloc (.cells #[.int .i64 k] 3)) mb m from ⟨(Ext.alloc _ _).cell HS.out.1, (Ext.alloc _ _).cell HS.out.2.1, HS.out.2.2.ext (Ext.alloc _ _)⟩)
                  refine hK _ _ (fun _ => HS.out) ?_; clear hK K
                  have hrowk := HIf.out.rows (nth rs k).name
                  rw [← Hvl.out] at hrowk
                  have hrowb := owns_ext hrowk (Ext.drew Wf)
                  have hnl := byN_len rs k (nth rs k).name
                  have hsz9 := HIf.out.size
                  refine wpL_only (i := 15) rfl (by kernel_rfl) (fun K hK => ?_)
                  rw [if_pos (by kernel_rfl)]
                  refine wp_append_own_at (.tmp 113) (.tmp 115) 35 rfl W5.heap.size 3 i0 (.int .i64 0) 1 8 Tryz.underlying35 hi hz0 hz1 hz2 rfl (by decide) vl _ _ rfl (hrowb.alloc _) ⟨(World.drew Wf).heap.size, 0, none⟩ 1 1 [.int .i64 k] rfl rfl (cell_one_new _ _ _) (by simp [Value.oneCell']) (by unfold maxLen; omega) (by omega) (by simp; omega) ?_
                  intro v9 w9 hown9 hgrow9 hat9
                  obtain ⟨w10, hrun10, ⟨m10, hI10⟩, hg10⟩ := OpInv.setBy HIb.out hown9 (by rw [← Hvl.out]; exact hgrow9) (by rw [← Hvl.out]; exact hat9)
                  have HI10 := Lib.hid hI10
                  have hS9 : w9.cell? ⟨bx, 0, none⟩ = some (.string (nth rs k).name) ∧ w9.cell? ⟨vb, 3, none⟩ = some (.map (some mb)) ∧ MapAt Value.string w9 mb m := by
                    refine ⟨hgrow9.cell HS.out.1 (fun e => ?_), hgrow9.cell HS.out.2.1 (fun e => ?_), HS.out.2.2.same (hgrow9.block mb HS.out.2.2.lt (fun e => ?_))⟩
                    · have := Hrl.out (nth rs k).name bx (by rw [← Hvl.out]; exact e.symm); omega
                    · have := (hrowk.lt vb e.symm).1; have := cell_lt (row_cell B2.out (j := 3) rfl); simp only at this; omega
                    · have := (hrowk.lt mb e.symm).1; have := HIf.out.lob; omega
                  refine hK _ _ (fun _ => hS9) ?_; clear hK K
                  have x09 := hS9.1
                  have c39 := hS9.2.1
                  clear hS9 hown9 hgrow9 hat9 hI10 hg10 hrowk hrowb hsz9
                  simp only [Act.put, nm]
                  refine wpL_only (i := 16) rfl (by kernel_rfl) (fun K hK => ?_)
                  go_simp
                  refine hK _ _ (fun h => Bool.noConfusion ((show early _ _ = false by kernel_rfl).symm.trans h)) ?_; clear hK K
                  refine wpL_done (by kernel_rfl) ?_
                  clear hrun10 x0 c3 HS
                  go_wp2_with fail
                  go_roundw
                  case rel =>
                    refine ⟨k + 1, by omega, by go_num, ⟨_, HI10.out⟩, fun j hj => ?_⟩
                    by_cases hjk : j = k
                    · rw [hjk]; exact hgood1.out
                    · exact Hgood.out j (by omega)
                  case measure => simp [intOf]; omega
                ·
                  have hgood1 := Lib.hid (show badRev g rs k = false by unfold badRev; rw [Htn.out, Int.toNat_natCast, hs1, hs3, h5, hf, show hasI g.length (tn : Int) = true from hasI_iff.2 ⟨by omega, by omega⟩]; rfl)
                  have hlook := HI.out.lookFull (nth rs k).name
                  rw [hfb] at hlook
                  obtain ⟨Wf, hrun, hIf, hgf⟩ := HI.out.setFull true (by rw [hfb, hf]; rfl)
                  have hlef := cellLe_map HI.out.full hgf
                  have HIf := Lib.hid hIf
                  have Hlef := Lib.hid hlef
                  clear hIf hgf hlef
                  go_upto_region 14 with (fail)
                  have x0 := Hlef.out _ _ x0
                  have c3 := Hlef.out _ _ c3
                  clear hlook hrun HI x1 x2 c0 c1 y0 y3 hs1 hs3 h5 hf hfb
                  obtain ⟨vl, hvl⟩ : ∃ vl, vl = (alook (nth rs k).name m).getD (.slice none 0 0) := ⟨_, rfl⟩
                  have Hvl := Lib.hid hvl
                  clear hvl
                  have HS := Lib.hid (show (World.drew Wf).cell? ⟨bx, 0, none⟩ = some (.string (nth rs k).name) ∧ (World.drew Wf).cell? ⟨vb, 3, none⟩ = some (.map (some mb)) ∧ MapAt Value.string (World.drew Wf) mb m from ⟨(Ext.drew Wf).cell x0, (Ext.drew Wf).cell c3, HIf.out.at_.ext (Ext.drew Wf)⟩)
                  refine wp_region_L [16] (fun u => u.cell? ⟨bx, 0, none⟩ = some (.string (nth rs k).name) ∧ u.cell? ⟨vb, 3, none⟩ = some (.map (some mb)) ∧ MapAt Value.string u mb m) (by kernel_rfl) ?_
                  change wpL _ _ _ _ _ _ _ _ _ (World.drew _)
                  refine wpL_pure (i := 0) (v := ?_) rfl (by kernel_rfl) (by kernel_rfl) (by kernel_rfl) (by kernel_rfl) (fun _ _ _ h => h) (Or.inl ⟨by kernel_rfl, fun w9 _ => ?_⟩) HS.out ?_
                  rotate_left
                  · first | (go_simp; done) | (go_simp; with_reducible rfl)
                  simp only [Act.put, nm]
                  refine wpL_pure (i := 1) (v := ?_) rfl (by kernel_rfl) (by kernel_rfl) (by kernel_rfl) (by kernel_rfl) (fun _ _ _ h => h) (Or.inl ⟨by kernel_rfl, fun w9 _ => ?_⟩) HS.out ?_
                  rotate_left
                  · first | (go_simp; done) | (go_simp; with_reducible rfl)
                  simp only [Act.put, nm]
                  refine wpL_pure (i := 2) (v := ?_) rfl (by kernel_rfl) (by kernel_rfl) (by kernel_rfl) (by kernel_rfl) (fun _ _ _ h => h) (Or.inl ⟨by kernel_rfl, fun w9 _ => ?_⟩) HS.out ?_
                  rotate_left
                  · first | (go_simp; done) | (go_simp; with_reducible rfl)
                  simp only [Act.put, nm]
                  refine wpL_read (i := 3) (v := ?_) rfl (by kernel_rfl) (by kernel_rfl) (by kernel_rfl) (by kernel_rfl) (fun _ _ _ h => h) (Or.inl ⟨by kernel_rfl, fun w9 hE => ?_⟩) HS.out ?_
                  rotate_left
                  · have c39 := hE.2.1; clear hE; first | (go_simp; done) | (go_simp; with_reducible rfl)
                  simp only [Act.put, nm]
                  refine wpL_pure (i := 4) (v := ?_) rfl (by kernel_rfl) (by kernel_rfl) (by kernel_rfl) (by kernel_rfl) (fun _ _ _ h => h) (Or.inl ⟨by kernel_rfl, fun w9 _ => ?_⟩) HS.out ?_
                  rotate_left
                  · first | (go_simp; done) | (go_simp; with_reducible rfl)
                  simp only [Act.put, nm]
                  refine wpL_read (i := 5) (v := ?_) rfl (by kernel_rfl) (by kernel_rfl) (by kernel_rfl) (by kernel_rfl) (fun _ _ _ h => h) (Or.inl ⟨by kernel_rfl, fun w9 hE => ?_⟩) HS.out ?_
                  rotate_left
                  · have x09 := hE.1; clear hE; first | (go_simp; done) | (go_simp; with_reducible rfl)
                  simp only [Act.put, nm]
                  refine wpL_pure (i := 6) (v := ?_) rfl (by kernel_rfl) (by kernel_rfl) (by kernel_rfl) (by kernel_rfl) (fun _ _ _ h => h) (Or.inl ⟨by kernel_rfl, fun w9 _ => ?_⟩) HS.out ?_
                  rotate_left
                  · first | (go_simp; done) | (go_simp; with_reducible rfl)
                  simp only [Act.put, nm]
                  refine wpL_pure (i := 7) (v := ?_) rfl (by kernel_rfl) (by kernel_rfl) (by kernel_rfl) (by kernel_rfl) (fun _ _ _ h => h) (Or.inl ⟨by kernel_rfl, fun w9 _ => ?_⟩) HS.out ?_
                  rotate_left
                  · first | (go_simp; done) | (go_simp; with_reducible rfl)
                  simp only [Act.put, nm]
                  refine wpL_pure (i := 8) (v := ?_) rfl (by kernel_rfl) (by kernel_rfl) (by kernel_rfl) (by kernel_rfl) (fun _ _ _ h => h) (Or.inl ⟨by kernel_rfl, fun w9 _ => ?_⟩) HS.out ?_
                  rotate_left
                  · first | (go_simp; done) | (go_simp; with_reducible rfl)
                  simp only [Act.put, nm]
                  refine wpL_read (i := 9) (v := ?_) rfl (by kernel_rfl) (by kernel_rfl) (by kernel_rfl) (by kernel_rfl) (fun _ _ _ h => h) (Or.inl ⟨by kernel_rfl, fun w9 hE => ?_⟩) HS.out ?_
                  rotate_left
                  · have c39 := hE.2.1; clear hE; first | (go_simp; done) | (go_simp; with_reducible rfl)
                  simp only [Act.put, nm]
                  refine wpL_pure (i := 10) (v := ?_) rfl (by kernel_rfl) (by kernel_rfl) (by kernel_rfl) (by kernel_rfl) (fun _ _ _ h => h) (Or.inl ⟨by kernel_rfl, fun w9 _ => ?_⟩) HS.out ?_
                  rotate_left
                  · first | (go_simp; done) | (go_simp; with_reducible rfl)
                  simp only [Act.put, nm]
                  refine wpL_read (i := 11) (v := ?_) rfl (by kernel_rfl) (by kernel_rfl) (by kernel_rfl) (by kernel_rfl) (fun _ _ _ h => h) (Or.inl ⟨by kernel_rfl, fun w9 hE => ?_⟩) HS.out ?_
                  rotate_left
                  · have x09 := hE.1; clear hE; first | (go_simp; done) | (go_simp; with_reducible rfl)
                  simp only [Act.put, nm]
                  refine wpL_read (i := 12) (v := ?_) rfl (by kernel_rfl) (by kernel_rfl) (by kernel_rfl) (by kernel_rfl) (fun _ _ _ h => h) (Or.inl ⟨by kernel_rfl, fun w9 hE => ?_⟩) HS.out ?_
                  rotate_left
                  · have hb9 := hE.2.2.lookup Tryz.underlying100 keyString (nth rs k).name zero35; rw [← Hvl.out] at hb9; clear hE; first | (go_simp; done) | (go_simp; with_reducible rfl)
                  simp only [Act.put, nm]
                  refine wpL_pure (i := 13) (v := ?_) rfl (by kernel_rfl) (by kernel_rfl) (by kernel_rfl) (by kernel_rfl) (fun _ _ _ h => h) (Or.inl ⟨by kernel_rfl, fun w9 _ => ?_⟩) HS.out ?_
                  rotate_left
                  · first | (go_simp; done) | (go_simp; with_reducible rfl)
                  simp only [Act.put, nm]
                  refine wpL_only (i := 14) rfl (by kernel_rfl) (fun K hK => ?_)
                  go_simp
                  have HIb := Lib.hid (HIf.out.grow ((Ext.drew Wf).trans (Ext.alloc _ (.cells #[.int .i64 k] 3))))
                  have HS := Lib.hid (show ((World.drew Wf).alloc (.cells #[.int .i64 k] 3)).cell? ⟨bx, 0, none⟩ = some (.string (nth rs k).name) ∧ ((World.drew Wf).alloc (.cells #[.int .i64 k] 3)).cell? ⟨vb, 3, none⟩ = some (.map (some mb)) ∧ MapAt Value.string ((World.drew Wf).alloc (.cells #[.int .i64 k] 3)) mb m from ⟨(Ext.alloc _ _).cell HS.out.1, (Ext.alloc _ _).cell HS.out.2.1, HS.out.2.2.ext (Ext.alloc _ _)⟩)
                  refine hK _ _ (fun _ => HS.out) ?_; clear hK K
                  have hrowk := HIf.out.rows (nth rs k).name
                  rw [← Hvl.out] at hrowk
                  have hrowb := owns_ext hrowk (Ext.drew Wf)
                  have hnl := byN_len rs k (nth rs k).name
                  have hsz9 := HIf.out.size
                  refine wpL_only (i := 15) rfl (by kernel_rfl) (fun K hK => ?_)
                  rw [if_pos (by kernel_rfl)]
                  refine wp_append_own_at (.tmp 113) (.tmp 115) 35 rfl W5.heap.size 3 i0 (.int .i64 0) 1 8 Tryz.underlying35 hi hz0 hz1 hz2 rfl (by decide) vl _ _ rfl (hrowb.alloc _) ⟨(World.drew Wf).heap.size, 0, none⟩ 1 1 [.int .i64 k] rfl rfl (cell_one_new _ _ _) (by simp [Value.oneCell']) (by unfold maxLen; omega) (by omega) (by simp; omega) ?_
                  intro v9 w9 hown9 hgrow9 hat9
                  obtain ⟨w10, hrun10, ⟨m10, hI10⟩, hg10⟩ := OpInv.setBy HIb.out hown9 (by rw [← Hvl.out]; exact hgrow9) (by rw [← Hvl.out]; exact hat9)
                  have HI10 := Lib.hid hI10
                  have hS9 : w9.cell? ⟨bx, 0, none⟩ = some (.string (nth rs k).name) ∧ w9.cell? ⟨vb, 3, none⟩ = some (.map (some mb)) ∧ MapAt Value.string w9 mb m := by
                    refine ⟨hgrow9.cell HS.out.1 (fun e => ?_), hgrow9.cell HS.out.2.1 (fun e => ?_), HS.out.2.2.same (hgrow9.block mb HS.out.2.2.lt (fun e => ?_))⟩
                    · have := Hrl.out (nth rs k).name bx (by rw [← Hvl.out]; exact e.symm); omega
                    · have := (hrowk.lt vb e.symm).1; have := cell_lt (row_cell B2.out (j := 3) rfl); simp only at this; omega
                    · have := (hrowk.lt mb e.symm).1; have := HIf.out.lob; omega
                  refine hK _ _ (fun _ => hS9) ?_; clear hK K
                  have x09 := hS9.1
                  have c39 := hS9.2.1
                  clear hS9 hown9 hgrow9 hat9 hI10 hg10 hrowk hrowb hsz9
                  simp only [Act.put, nm]
                  refine wpL_only (i := 16) rfl (by kernel_rfl) (fun K hK => ?_)
                  go_simp
                  refine hK _ _ (fun h => Bool.noConfusion ((show early _ _ = false by kernel_rfl).symm.trans h)) ?_; clear hK K
                  refine wpL_done (by kernel_rfl) ?_
                  clear hrun10 x0 c3 HS
                  go_wp2_with fail
                  go_roundw
                  case rel =>
                    refine ⟨k + 1, by omega, by go_num, ⟨_, HI10.out⟩, fun j hj => ?_⟩
                    by_cases hjk : j = k
                    · rw [hjk]; exact hgood1.out
                    · exact Hgood.out j (by omega)
                  case measure => simp [intOf]; omega
              ·
                rw [hf] at x1
                refine tE (i := 33) (v := ?_) (fun w9 hE => ?_) ?_
                rotate_left
                · have x1E := hE.cell x1; clear hE; first | (go_simp; done) | (go_simp; with_reducible rfl)
                simp only [Act.put, nm]
                refine tE (i := 34) (v := ?_) (fun w9 hE => ?_) ?_
                rotate_left
                · clear hE; first | (go_simp; done) | (go_simp; with_reducible rfl)
                simp only [Act.put, nm]
                refine tE (i := 35) (v := ?_) (fun w9 hE => ?_) ?_
                rotate_left
                · clear hE; first | (go_simp; done) | (go_simp; with_reducible rfl)
                simp only [Act.put, nm]
                refine tE (i := 36) (v := ?_) (fun w9 hE => ?_) ?_
                rotate_left
                · clear hE; first | (go_simp; done) | (go_simp; with_reducible rfl)
                simp only [Act.put, nm]
                refine tE (i := 37) (v := ?_) (fun w9 hE => ?_) ?_
                rotate_left
                · have x2E := hE.cell x2; clear hE; first | (go_simp; done) | (go_simp; with_reducible rfl)
                simp only [Act.put, nm]
                refine tE (i := 38) (v := ?_) (fun w9 hE => ?_) ?_
                rotate_left
                · clear hE; first | (go_simp; done) | (go_simp; with_reducible rfl)
                simp only [Act.put, nm]
                refine tE (i := 39) (v := ?_) (fun w9 hE => ?_) ?_
                rotate_left
                · clear hE; first | (go_simp; done) | (go_simp; with_reducible rfl)
                simp only [Act.put, nm]
                cases hbr : (nth g tn).branded
                ·
                  rw [hbr] at y3
                  refine tE (i := 40) (v := ?_) (fun w9 hE => ?_) ?_
                  rotate_left
                  · have y3E := hE.cell y3; clear hE; first | (go_simp; done) | (go_simp; with_reducible rfl)
                  simp only [Act.put, nm]
                  refine tE (i := 41) (v := ?_) (fun w9 hE => ?_) ?_
                  rotate_left
                  · clear hE; first | (go_simp; done) | (go_simp; with_reducible rfl)
                  simp only [Act.put, nm]
                  refine tE (i := 42) (v := ?_) (fun w9 hE => ?_) ?_
                  rotate_left
                  · clear hE; first | (go_simp; done) | (go_simp; with_reducible rfl)
                  simp only [Act.put, nm]
                  refine wpE_take (i := 43) (v := undef) rfl (by kernel_rfl) (by kernel_rfl) (by kernel_rfl) (fun _ _ _ h => h) (Or.inr ⟨by kernel_rfl, rfl⟩) ?_
                  simp only [Act.put, nm]
                  refine wpE_take (i := 44) (v := undef) rfl (by kernel_rfl) (by kernel_rfl) (by kernel_rfl) (fun _ _ _ h => h) (Or.inr ⟨by kernel_rfl, rfl⟩) ?_
                  simp only [Act.put, nm]
                  refine wpE_take (i := 45) (v := undef) rfl (by kernel_rfl) (by kernel_rfl) (by kernel_rfl) (fun _ _ _ h => h) (Or.inr ⟨by kernel_rfl, rfl⟩) ?_
                  simp only [Act.put, nm]
                  refine wpE_take (i := 46) (v := undef) rfl (by kernel_rfl) (by kernel_rfl) (by kernel_rfl) (fun _ _ _ h => h) (Or.inr ⟨by kernel_rfl, rfl⟩) ?_
                  simp only [Act.put, nm]
                  refine tE (i := 47) (v := ?_) (fun w9 hE => ?_) ?_
                  rotate_left
                  · clear hE; first | (go_simp; done) | (go_simp; with_reducible rfl)
                  simp only [Act.put, nm]
                  refine tE (i := 48) (v := ?_) (fun w9 hE => ?_) ?_
                  rotate_left
                  · clear hE; first | (go_simp; done) | (go_simp; with_reducible rfl)
                  simp only [Act.put, nm]
                  refine tE (i := 49) (v := ?_) (fun w9 hE => ?_) ?_
                  rotate_left
                  · clear hE; first | (go_simp; done) | (go_simp; with_reducible rfl)
                  simp only [Act.put, nm]
                  refine wpE_done (by kernel_rfl) (by kernel_rfl) ?_
                  have Hs := Lib.hid (openE_bad H0.out h6 hlt (show badRev g rs k = true by unfold badRev; rw [Htn.out, Int.toNat_natCast, hf, hbr]; simp))
                  have HX := Lib.hid HI.out.ext
                  clear HI
                  go_wp2_with fail
                  go_ret2
                  exact Or.inr ⟨by rw [Hs.out]; decide, by rw [Hs.out]; rfl, HX.out⟩
                ·
                  rw [hbr] at y3
                  refine tE (i := 40) (v := ?_) (fun w9 hE => ?_) ?_
                  rotate_left
                  · have y3E := hE.cell y3; clear hE; first | (go_simp; done) | (go_simp; with_reducible rfl)
                  simp only [Act.put, nm]
                  refine tE (i := 41) (v := ?_) (fun w9 hE => ?_) ?_
                  rotate_left
                  · clear hE; first | (go_simp; done) | (go_simp; with_reducible rfl)
                  simp only [Act.put, nm]
                  refine tE (i := 42) (v := ?_) (fun w9 hE => ?_) ?_
                  rotate_left
                  · clear hE; first | (go_simp; done) | (go_simp; with_reducible rfl)
                  simp only [Act.put, nm]
                  refine tE (i := 43) (v := ?_) (fun w9 hE => ?_) ?_
                  rotate_left
                  · clear hE; first | (go_simp; done) | (go_simp; with_reducible rfl)
                  simp only [Act.put, nm]
                  refine tE (i := 44) (v := ?_) (fun w9 hE => ?_) ?_
                  rotate_left
                  · clear hE; first | (go_simp; done) | (go_simp; with_reducible rfl)
                  simp only [Act.put, nm]
                  refine tE (i := 45) (v := ?_) (fun w9 hE => ?_) ?_
                  rotate_left
                  · have x0E := hE.cell x0; clear hE; first | (go_simp; done) | (go_simp; with_reducible rfl)
                  simp only [Act.put, nm]
                  have Hlk := Lib.hid (fun A (h : Ext W9 A) => (HI.out.grow h).lookFull (nth rs k).name)
                  cases hfb : fullB rs k (nth rs k).name
                  ·
                    rw [hfb] at Hlk
                    refine tE (i := 46) (v := ?_) (fun w9 hE => ?_) ?_
                    rotate_left
                    · have hlk := Hlk.out w9 hE; clear hE; first | (go_simp; done) | (go_simp; with_reducible rfl)
                    simp only [Act.put, nm]
                    refine tE (i := 47) (v := ?_) (fun w9 hE => ?_) ?_
                    rotate_left
                    · clear hE; first | (go_simp; done) | (go_simp; with_reducible rfl)
                    simp only [Act.put, nm]
                    refine tE (i := 48) (v := ?_) (fun w9 hE => ?_) ?_
                    rotate_left
                    · clear hE; first | (go_simp; done) | (go_simp; with_reducible rfl)
                    simp only [Act.put, nm]
                    refine tE (i := 49) (v := ?_) (fun w9 hE => ?_) ?_
                    rotate_left
                    · clear hE; first | (go_simp; done) | (go_simp; with_reducible rfl)
                    simp only [Act.put, nm]
                    refine wpE_done (by kernel_rfl) (by kernel_rfl) ?_
                    clear Hlk
                    have hgood1 := Lib.hid (show badRev g rs k = false by unfold badRev; rw [Htn.out, Int.toNat_natCast, hs1, hs3, h5, hf, hbr, hfb, show hasI g.length (tn : Int) = true from hasI_iff.2 ⟨by omega, by omega⟩]; rfl)
                    have hlook := HI.out.lookFull (nth rs k).name
                    rw [hfb] at hlook
                    obtain ⟨Wf, hrun, hIf, hgf⟩ := HI.out.setFull true (by rw [hfb, hf]; rfl)
                    have hlef := cellLe_map HI.out.full hgf
                    have HIf := Lib.hid hIf
                    have Hlef := Lib.hid hlef
                    clear hIf hgf hlef
                    go_upto_region 14 with (fail)
                    have x0 := Hlef.out _ _ x0
                    have c3 := Hlef.out _ _ c3
                    clear hlook hrun HI x1 x2 c0 c1 y0 y3 hs1 hs3 h5 hf hfb hbr
                    obtain ⟨vl, hvl⟩ : ∃ vl, vl = (alook (nth rs k).name m).getD (.slice none 0 0) := ⟨_, rfl⟩
                    have Hvl := Lib.hid hvl
                    clear hvl
                    have HS := Lib.hid (show (World.drew Wf).cell? ⟨bx, 0, none⟩ = some (.string (nth rs k).name) ∧ (World.drew Wf).cell? ⟨vb, 3, none⟩ = some (.map (some mb)) ∧ MapAt Value.string (World.drew Wf) mb m from ⟨(Ext.drew Wf).cell x0, (Ext.drew Wf).cell c3, HIf.out.at_.ext (Ext.drew Wf)⟩)
                    refine wp_region_L [16] (fun u => u.cell? ⟨bx, 0, none⟩ = some (.string (nth rs k).name) ∧ u.cell? ⟨vb, 3, none⟩ = some (.map (some mb)) ∧ MapAt Value.string u mb m) (by kernel_rfl) ?_
                    change wpL _ _ _ _ _ _ _ _ _ (World.drew _)
                    refine wpL_pure (i := 0) (v := ?_) rfl (by kernel_rfl) (by kernel_rfl) (by kernel_rfl) (by kernel_rfl) (fun _ _ _ h => h) (Or.inl ⟨by kernel_rfl, fun w9 _ => ?_⟩) HS.out ?_
                    rotate_left
                    · first | (go_simp; done) | (go_simp; with_reducible rfl)
                    simp only [Act.put, nm]
                    refine wpL_pure (i := 1) (v := ?_) rfl (by kernel_rfl) (by kernel_rfl) (by kernel_rfl) (by kernel_rfl) (fun _ _ _ h => h) (Or.inl ⟨by kernel_rfl, fun w9 _ => ?_⟩) HS.out ?_
                    rotate_left
                    · first | (go_simp; done) | (go_simp; with_reducible rfl)
                    simp only [Act.put, nm]
                    refine wpL_pure (i := 2) (v := ?_) rfl (by kernel_rfl) (by kernel_rfl) (by kernel_rfl) (by kernel_rfl) (fun _ _ _ h => h) (Or.inl ⟨by kernel_rfl, fun w9 _ => ?_⟩) HS.out ?_
                    rotate_left
                    · first | (go_simp; done) | (go_simp; with_reducible rfl)
                    simp only [Act.put, nm]
                    refine wpL_read (i := 3) (v := ?_) rfl (by kernel_rfl) (by kernel_rfl) (by kernel_rfl) (by kernel_rfl) (fun _ _ _ h => h) (Or.inl ⟨by kernel_rfl, fun w9 hE => ?_⟩) HS.out ?_
                    rotate_left
                    · have c39 := hE.2.1; clear hE; first | (go_simp; done) | (go_simp; with_reducible rfl)
                    simp only [Act.put, nm]
                    refine wpL_pure (i := 4) (v := ?_) rfl (by kernel_rfl) (by kernel_rfl) (by kernel_rfl) (by kernel_rfl) (fun _ _ _ h => h) (Or.inl ⟨by kernel_rfl, fun w9 _ => ?_⟩) HS.out ?_
                    rotate_left
                    · first | (go_simp; done) | (go_simp; with_reducible rfl)
                    simp only [Act.put, nm]
                    refine wpL_read (i := 5) (v := ?_) rfl (by kernel_rfl) (by kernel_rfl) (by kernel_rfl) (by kernel_rfl) (fun _ _ _ h => h) (Or.inl ⟨by kernel_rfl, fun w9 hE => ?_⟩) HS.out ?_
                    rotate_left
                    · have x09 := hE.1; clear hE; first | (go_simp; done) | (go_simp; with_reducible rfl)
                    simp only [Act.put, nm]
                    refine wpL_pure (i := 6) (v := ?_) rfl (by kernel_rfl) (by kernel_rfl) (by kernel_rfl) (by kernel_rfl) (fun _ _ _ h => h) (Or.inl ⟨by kernel_rfl, fun w9 _ => ?_⟩) HS.out ?_
                    rotate_left
                    · first | (go_simp; done) | (go_simp; with_reducible rfl)
                    simp only [Act.put, nm]
                    refine wpL_pure (i := 7) (v := ?_) rfl (by kernel_rfl) (by kernel_rfl) (by kernel_rfl) (by kernel_rfl) (fun _ _ _ h => h) (Or.inl ⟨by kernel_rfl, fun w9 _ => ?_⟩) HS.out ?_
                    rotate_left
                    · first | (go_simp; done) | (go_simp; with_reducible rfl)
                    simp only [Act.put, nm]
                    refine wpL_pure (i := 8) (v := ?_) rfl (by kernel_rfl) (by kernel_rfl) (by kernel_rfl) (by kernel_rfl) (fun _ _ _ h => h) (Or.inl ⟨by kernel_rfl, fun w9 _ => ?_⟩) HS.out ?_
                    rotate_left
                    · first | (go_simp; done) | (go_simp; with_reducible rfl)
                    simp only [Act.put, nm]
                    refine wpL_read (i := 9) (v := ?_) rfl (by kernel_rfl) (by kernel_rfl) (by kernel_rfl) (by kernel_rfl) (fun _ _ _ h => h) (Or.inl ⟨by kernel_rfl, fun w9 hE => ?_⟩) HS.out ?_
                    rotate_left
                    · have c39 := hE.2.1; clear hE; first | (go_simp; done) | (go_simp; with_reducible rfl)
                    simp only [Act.put, nm]
                    refine wpL_pure (i := 10) (v := ?_) rfl (by kernel_rfl) (by kernel_rfl) (by kernel_rfl) (by kernel_rfl) (fun _ _ _ h => h) (Or.inl ⟨by kernel_rfl, fun w9 _ => ?_⟩) HS.out ?_
                    rotate_left
                    · first | (go_simp; done) | (go_simp; with_reducible rfl)
                    simp only [Act.put, nm]
                    refine wpL_read (i := 11) (v := ?_) rfl (by kernel_rfl) (by kernel_rfl) (by kernel_rfl) (by kernel_rfl) (fun _ _ _ h => h) (Or.inl ⟨by kernel_rfl, fun w9 hE => ?_⟩) HS.out ?_
                    rotate_left
                    · have x09 := hE.1; clear hE; first | (go_simp; done) | (go_simp; with_reducible rfl)
                    simp only [Act.put, nm]
                    refine wpL_read (i := 12) (v := ?_) rfl (by kernel_rfl) (by kernel_rfl) (by kernel_rfl) (by kernel_rfl) (fun _ _ _ h => h) (Or.inl ⟨by kernel_rfl, fun w9 hE => ?_⟩) HS.out ?_
                    rotate_left
                    · have hb9 := hE.2.2.lookup Tryz.underlying100 keyString (nth rs k).name zero35; rw [← Hvl.out] at hb9; clear hE; first | (go_simp; done) | (go_simp; with_reducible rfl)
                    simp only [Act.put, nm]
                    refine wpL_pure (i := 13) (v := ?_) rfl (by kernel_rfl) (by kernel_rfl) (by kernel_rfl) (by kernel_rfl) (fun _ _ _ h => h) (Or.inl ⟨by kernel_rfl, fun w9 _ => ?_⟩) HS.out ?_
                    rotate_left
                    · first | (go_simp; done) | (go_simp; with_reducible rfl)
                    simp only [Act.put, nm]
                    refine wpL_only (i := 14) rfl (by kernel_rfl) (fun K hK => ?_)
                    go_simp
                    have HIb := Lib.hid (HIf.out.grow ((Ext.drew Wf).trans (Ext.alloc _ (.cells #[.int .i64 k] 3))))
                    have HS := Lib.hid (show ((World.drew Wf).alloc (.cells #[.int .i64 k] 3)).cell? ⟨bx, 0, none⟩ = some (.string (nth rs k).name) ∧ ((World.drew Wf).alloc (.cells #[.int .i64 k] 3)).cell? ⟨vb, 3, none⟩ = some (.map (some mb)) ∧ MapAt Value.string ((World.drew Wf).alloc (.cells #[.int .i64 k] 3)) mb m from ⟨(Ext.alloc _ _).cell HS.out.1, (Ext.alloc _ _).cell HS.out.2.1, HS.out.2.2.ext (Ext.alloc _ _)⟩)
                    refine hK _ _ (fun _ => HS.out) ?_; clear hK K
                    have hrowk := HIf.out.rows (nth rs k).name
                    rw [← Hvl.out] at hrowk
                    have hrowb := owns_ext hrowk (Ext.drew Wf)
                    have hnl := byN_len rs k (nth rs k).name
                    have hsz9 := HIf.out.size
                    refine wpL_only (i := 15) rfl (by kernel_rfl) (fun K hK => ?_)
                    rw [if_pos (by kernel_rfl)]
                    refine wp_append_own_at (.tmp 113) (.tmp 115) 35 rfl W5.heap.size 3 i0 (.int .i64 0) 1 8 Tryz.underlying35 hi hz0 hz1 hz2 rfl (by decide) vl _ _ rfl (hrowb.alloc _) ⟨(World.drew Wf).heap.size, 0, none⟩ 1 1 [.int .i64 k] rfl rfl (cell_one_new _ _ _) (by simp [Value.oneCell']) (by unfold maxLen; omega) (by omega) (by simp; omega) ?_
                    intro v9 w9 hown9 hgrow9 hat9
                    obtain ⟨w10, hrun10, ⟨m10, hI10⟩, hg10⟩ := OpInv.setBy HIb.out hown9 (by rw [← Hvl.out]; exact hgrow9) (by rw [← Hvl.out]; exact hat9)
                    have HI10 := Lib.hid hI10
                    have hS9 : w9.cell? ⟨bx, 0, none⟩ = some (.string (nth rs k).name) ∧ w9.cell? ⟨vb, 3, none⟩ = some (.map (some mb)) ∧ MapAt Value.string w9 mb m := by
                      refine ⟨hgrow9.cell HS.out.1 (fun e => ?_), hgrow9.cell HS.out.2.1 (fun e => ?_), HS.out.2.2.same (hgrow9.block mb HS.out.2.2.lt (fun e => ?_))⟩
                      · have := Hrl.out (nth rs k).name bx (by rw [← Hvl.out]; exact e.symm); omega
                      · have := (hrowk.lt vb e.symm).1; have := cell_lt (row_cell B2.out (j := 3) rfl); simp only at this; omega
                      · have := (hrowk.lt mb e.symm).1; have := HIf.out.lob; omega
                    refine hK _ _ (fun _ => hS9) ?_; clear hK K
                    have x09 := hS9.1
                    have c39 := hS9.2.1
                    clear hS9 hown9 hgrow9 hat9 hI10 hg10 hrowk hrowb hsz9
                    simp only [Act.put, nm]
                    refine wpL_only (i := 16) rfl (by kernel_rfl) (fun K hK => ?_)
                    go_simp
                    refine hK _ _ (fun h => Bool.noConfusion ((show early _ _ = false by kernel_rfl).symm.trans h)) ?_; clear hK K
                    refine wpL_done (by kernel_rfl) ?_
                    clear hrun10 x0 c3 HS
                    go_wp2_with fail
                    go_roundw
                    case rel =>
                      refine ⟨k + 1, by omega, by go_num, ⟨_, HI10.out⟩, fun j hj => ?_⟩
                      by_cases hjk : j = k
                      · rw [hjk]; exact hgood1.out
                      · exact Hgood.out j (by omega)
                    case measure => simp [intOf]; omega
                  ·
                    rw [hfb] at Hlk
                    refine tE (i := 46) (v := ?_) (fun w9 hE => ?_) ?_
                    rotate_left
                    · have hlk := Hlk.out w9 hE; clear hE; first | (go_simp; done) | (go_simp; with_reducible rfl)
                    simp only [Act.put, nm]
                    refine tE (i := 47) (v := ?_) (fun w9 hE => ?_) ?_
                    rotate_left
                    · clear hE; first | (go_simp; done) | (go_simp; with_reducible rfl)
                    simp only [Act.put, nm]
                    refine tE (i := 48) (v := ?_) (fun w9 hE => ?_) ?_
                    rotate_left
                    · clear hE; first | (go_simp; done) | (go_simp; with_reducible rfl)
                    simp only [Act.put, nm]
                    refine tE (i := 49) (v := ?_) (fun w9 hE => ?_) ?_
                    rotate_left
                    · clear hE; first | (go_simp; done) | (go_simp; with_reducible rfl)
                    simp only [Act.put, nm]
                    refine wpE_done (by kernel_rfl) (by kernel_rfl) ?_
                    have Hs := Lib.hid (openE_bad H0.out h6 hlt (show badRev g rs k = true by unfold badRev; rw [Htn.out, Int.toNat_natCast, hf, hfb]; simp))
                    have HX := Lib.hid HI.out.ext
                    clear HI
                    go_wp2_with fail
                    go_ret2
                    exact Or.inr ⟨by rw [Hs.out]; decide, by rw [Hs.out]; rfl, HX.out⟩
            ·
              refine tE (i := 29) (v := ?_) (fun w9 hE => ?_) ?_
              rotate_left
              · clear hE; first | (go_simp; done) | (go_simp; with_reducible rfl)
              simp only [Act.put, nm]
              refine tE (i := 30) (v := ?_) (fun w9 hE => ?_) ?_
              rotate_left
              · clear hE; first | (go_simp; done) | (go_simp; with_reducible rfl)
              simp only [Act.put, nm]
              refine tE (i := 31) (v := ?_) (fun w9 hE => ?_) ?_
              rotate_left
              · clear hE; first | (go_simp; done) | (go_simp; with_reducible rfl)
              simp only [Act.put, nm]
              refine wpE_take (i := 32) (v := undef) rfl (by kernel_rfl) (by kernel_rfl) (by kernel_rfl) (fun _ _ _ h => h) (Or.inr ⟨by kernel_rfl, rfl⟩) ?_
              simp only [Act.put, nm]
              refine wpE_take (i := 33) (v := undef) rfl (by kernel_rfl) (by kernel_rfl) (by kernel_rfl) (fun _ _ _ h => h) (Or.inr ⟨by kernel_rfl, rfl⟩) ?_
              simp only [Act.put, nm]
              refine wpE_take (i := 34) (v := undef) rfl (by kernel_rfl) (by kernel_rfl) (by kernel_rfl) (fun _ _ _ h => h) (Or.inr ⟨by kernel_rfl, rfl⟩) ?_
              simp only [Act.put, nm]
              refine wpE_take (i := 35) (v := undef) rfl (by kernel_rfl) (by kernel_rfl) (by kernel_rfl) (fun _ _ _ h => h) (Or.inr ⟨by kernel_rfl, rfl⟩) ?_
              simp only [Act.put, nm]
              refine wpE_take (i := 36) (v := undef) rfl (by kernel_rfl) (by kernel_rfl) (by kernel_rfl) (fun _ _ _ h => h) (Or.inr ⟨by kernel_rfl, rfl⟩) ?_
              simp only [Act.put, nm]
              refine wpE_take (i := 37) (v := undef) rfl (by kernel_rfl) (by kernel_rfl) (by kernel_rfl) (fun _ _ _ h => h) (Or.inr ⟨by kernel_rfl, rfl⟩) ?_
              simp only [Act.put, nm]
              refine wpE_take (i := 38) (v := undef) rfl (by kernel_rfl) (by kernel_rfl) (by kernel_rfl) (fun _ _ _ h => h) (Or.inr ⟨by kernel_rfl, rfl⟩) ?_
              simp only [Act.put, nm]
              refine wpE_take (i := 39) (v := undef) rfl (by kernel_rfl) (by kernel_rfl) (by kernel_rfl) (fun _ _ _ h => h) (Or.inr ⟨by kernel_rfl, rfl⟩) ?_
              simp only [Act.put, nm]
              refine wpE_take (i := 40) (v := undef) rfl (by kernel_rfl) (by kernel_rfl) (by kernel_rfl) (fun _ _ _ h => h) (Or.inr ⟨by kernel_rfl, rfl⟩) ?_
              simp only [Act.put, nm]
              refine wpE_take (i := 41) (v := undef) rfl (by kernel_rfl) (by kernel_rfl) (by kernel_rfl) (fun _ _ _ h => h) (Or.inr ⟨by kernel_rfl, rfl⟩) ?_
              simp only [Act.put, nm]
              refine wpE_take (i := 42) (v := undef) rfl (by kernel_rfl) (by kernel_rfl) (by kernel_rfl) (fun _ _ _ h => h) (Or.inr ⟨by kernel_rfl, rfl⟩) ?_
              simp only [Act.put, nm]
              refine wpE_take (i := 43) (v := undef) rfl (by kernel_rfl) (by kernel_rfl) (by kernel_rfl) (fun _ _ _ h => h) (Or.inr ⟨by kernel_rfl, rfl⟩) ?_
              simp only [Act.put, nm]
              refine wpE_take (i := 44) (v := undef) rfl (by kernel_rfl) (by kernel_rfl) (by kernel_rfl) (fun _ _ _ h => h) (Or.inr ⟨by kernel_rfl, rfl⟩) ?_
              simp only [Act.put, nm]
              refine wpE_take (i := 45) (v := undef) rfl (by kernel_rfl) (by kernel_rfl) (by kernel_rfl) (fun _ _ _ h => h) (Or.inr ⟨by kernel_rfl, rfl⟩) ?_
              simp only [Act.put, nm]
              refine wpE_take (i := 46) (v := undef) rfl (by kernel_rfl) (by kernel_rfl) (by kernel_rfl) (fun _ _ _ h => h) (Or.inr ⟨by kernel_rfl, rfl⟩) ?_
              simp only [Act.put, nm]
              refine wpE_take (i := 47) (v := undef) rfl (by kernel_rfl) (by kernel_rfl) (by kernel_rfl) (fun _ _ _ h => h) (Or.inr ⟨by kernel_rfl, rfl⟩) ?_
              simp only [Act.put, nm]
              refine wpE_take (i := 48) (v := undef) rfl (by kernel_rfl) (by kernel_rfl) (by kernel_rfl) (fun _ _ _ h => h) (Or.inr ⟨by kernel_rfl, rfl⟩) ?_
              simp only [Act.put, nm]
              refine tE (i := 49) (v := ?_) (fun w9 hE => ?_) ?_
              rotate_left
              · clear hE; first | (go_simp; done) | (go_simp; with_reducible rfl)
              simp only [Act.put, nm]
              refine wpE_done (by kernel_rfl) (by kernel_rfl) ?_
              have Hs := Lib.hid (openE_bad H0.out h6 hlt (show badRev g rs k = true by unfold badRev; rw [Htn.out, Int.toNat_natCast, h5]; simp))
              have HX := Lib.hid HI.out.ext
              clear HI
              go_wp2_with fail
              go_ret2
              exact Or.inr ⟨by rw [Hs.out]; decide, by rw [Hs.out]; rfl, HX.out⟩
          ·
            refine tE (i := 21) (v := ?_) (fun w9 hE => ?_) ?_
            rotate_left
            · clear hE; first | (go_simp; done) | (go_simp; with_reducible rfl)
            simp only [Act.put, nm]
            refine tE (i := 22) (v := ?_) (fun w9 hE => ?_) ?_
            rotate_left
            · clear hE; first | (go_simp; done) | (go_simp; with_reducible rfl)
            simp only [Act.put, nm]
            refine wpE_take (i := 23) (v := undef) rfl (by kernel_rfl) (by kernel_rfl) (by kernel_rfl) (fun _ _ _ h => h) (Or.inr ⟨by kernel_rfl, rfl⟩) ?_
            simp only [Act.put, nm]
            refine wpE_take (i := 24) (v := undef) rfl (by kernel_rfl) (by kernel_rfl) (by kernel_rfl) (fun _ _ _ h => h) (Or.inr ⟨by kernel_rfl, rfl⟩) ?_
            simp only [Act.put, nm]
            refine wpE_take (i := 25) (v := undef) rfl (by kernel_rfl) (by kernel_rfl) (by kernel_rfl) (fun _ _ _ h => h) (Or.inr ⟨by kernel_rfl, rfl⟩) ?_
            simp only [Act.put, nm]
            refine wpE_take (i := 26) (v := undef) rfl (by kernel_rfl) (by kernel_rfl) (by kernel_rfl) (fun _ _ _ h => h) (Or.inr ⟨by kernel_rfl, rfl⟩) ?_
            simp only [Act.put, nm]
            refine wpE_take (i := 27) (v := undef) rfl (by kernel_rfl) (by kernel_rfl) (by kernel_rfl) (fun _ _ _ h => h) (Or.inr ⟨by kernel_rfl, rfl⟩) ?_
            simp only [Act.put, nm]
            refine wpE_take (i := 28) (v := undef) rfl (by kernel_rfl) (by kernel_rfl) (by kernel_rfl) (fun _ _ _ h => h) (Or.inr ⟨by kernel_rfl, rfl⟩) ?_
            simp only [Act.put, nm]
            refine wpE_take (i := 29) (v := undef) rfl (by kernel_rfl) (by kernel_rfl) (by kernel_rfl) (fun _ _ _ h => h) (Or.inr ⟨by kernel_rfl, rfl⟩) ?_
            simp only [Act.put, nm]
            refine tE (i := 30) (v := ?_) (fun w9 hE => ?_) ?_
            rotate_left
            · clear hE; first | (go_simp; done) | (go_simp; with_reducible rfl)
            simp only [Act.put, nm]
            refine tE (i := 31) (v := ?_) (fun w9 hE => ?_) ?_
            rotate_left
            · clear hE; first | (go_simp; done) | (go_simp; with_reducible rfl)
            simp only [Act.put, nm]
            refine wpE_take (i := 32) (v := undef) rfl (by kernel_rfl) (by kernel_rfl) (by kernel_rfl) (fun _ _ _ h => h) (Or.inr ⟨by kernel_rfl, rfl⟩) ?_
            simp only [Act.put, nm]
            refine wpE_take (i := 33) (v := undef) rfl (by kernel_rfl) (by kernel_rfl) (by kernel_rfl) (fun _ _ _ h => h) (Or.inr ⟨by kernel_rfl, rfl⟩) ?_
            simp only [Act.put, nm]
            refine wpE_take (i := 34) (v := undef) rfl (by kernel_rfl) (by kernel_rfl) (by kernel_rfl) (fun _ _ _ h => h) (Or.inr ⟨by kernel_rfl, rfl⟩) ?_
            simp only [Act.put, nm]
            refine wpE_take (i := 35) (v := undef) rfl (by kernel_rfl) (by kernel_rfl) (by kernel_rfl) (fun _ _ _ h => h) (Or.inr ⟨by kernel_rfl, rfl⟩) ?_
            simp only [Act.put, nm]
            refine wpE_take (i := 36) (v := undef) rfl (by kernel_rfl) (by kernel_rfl) (by kernel_rfl) (fun _ _ _ h => h) (Or.inr ⟨by kernel_rfl, rfl⟩) ?_
            simp only [Act.put, nm]
            refine wpE_take (i := 37) (v := undef) rfl (by kernel_rfl) (by kernel_rfl) (by kernel_rfl) (fun _ _ _ h => h) (Or.inr ⟨by kernel_rfl, rfl⟩) ?_
            simp only [Act.put, nm]
            refine wpE_take (i := 38) (v := undef) rfl (by kernel_rfl) (by kernel_rfl) (by kernel_rfl) (fun _ _ _ h => h) (Or.inr ⟨by kernel_rfl, rfl⟩) ?_
            simp only [Act.put, nm]
            refine wpE_take (i := 39) (v := undef) rfl (by kernel_rfl) (by kernel_rfl) (by kernel_rfl) (fun _ _ _ h => h) (Or.inr ⟨by kernel_rfl, rfl⟩) ?_
            simp only [Act.put, nm]
            refine wpE_take (i := 40) (v := undef) rfl (by kernel_rfl) (by kernel_rfl) (by kernel_rfl) (fun _ _ _ h => h) (Or.inr ⟨by kernel_rfl, rfl⟩) ?_
            simp only [Act.put, nm]
            refine wpE_take (i := 41) (v := undef) rfl (by kernel_rfl) (by kernel_rfl) (by kernel_rfl) (fun _ _ _ h => h) (Or.inr ⟨by kernel_rfl, rfl⟩) ?_
            simp only [Act.put, nm]
            refine wpE_take (i := 42) (v := undef) rfl (by kernel_rfl) (by kernel_rfl) (by kernel_rfl) (fun _ _ _ h => h) (Or.inr ⟨by kernel_rfl, rfl⟩) ?_
            simp only [Act.put, nm]
            refine wpE_take (i := 43) (v := undef) rfl (by kernel_rfl) (by kernel_rfl) (by kernel_rfl) (fun _ _ _ h => h) (Or.inr ⟨by kernel_rfl, rfl⟩) ?_
            simp only [Act.put, nm]
            refine wpE_take (i := 44) (v := undef) rfl (by kernel_rfl) (by kernel_rfl) (by kernel_rfl) (fun _ _ _ h => h) (Or.inr ⟨by kernel_rfl, rfl⟩) ?_
            simp only [Act.put, nm]
            refine wpE_take (i := 45) (v := undef) rfl (by kernel_rfl) (by kernel_rfl) (by kernel_rfl) (fun _ _ _ h => h) (Or.inr ⟨by kernel_rfl, rfl⟩) ?_
            simp only [Act.put, nm]
            refine wpE_take (i := 46) (v := undef) rfl (by kernel_rfl) (by kernel_rfl) (by kernel_rfl) (fun _ _ _ h => h) (Or.inr ⟨by kernel_rfl, rfl⟩) ?_
            simp only [Act.put, nm]
            refine wpE_take (i := 47) (v := undef) rfl (by kernel_rfl) (by kernel_rfl) (by kernel_rfl) (fun _ _ _ h => h) (Or.inr ⟨by kernel_rfl, rfl⟩) ?_
            simp only [Act.put, nm]
            refine wpE_take (i := 48) (v := undef) rfl (by kernel_rfl) (by kernel_rfl) (by kernel_rfl) (fun _ _ _ h => h) (Or.inr ⟨by kernel_rfl, rfl⟩) ?_
            simp only [Act.put, nm]
            refine tE (i := 49) (v := ?_) (fun w9 hE => ?_) ?_
            rotate_left
            · clear hE; first | (go_simp; done) | (go_simp; with_reducible rfl)
            simp only [Act.put, nm]
            refine wpE_done (by kernel_rfl) (by kernel_rfl) ?_
            have Hs := Lib.hid (openE_bad H0.out h6 hlt (show badRev g rs k = true by unfold badRev; rw [Htn.out, Int.toNat_natCast, hs3]; simp))
            have HX := Lib.hid HI.out.ext
            clear HI
            go_wp2_with fail
            go_ret2
            exact Or.inr ⟨by rw [Hs.out]; decide, by rw [Hs.out]; rfl, HX.out⟩
      · have hno : hasI g.length (nth rs k).type = false := by simpa using hin
        have hbad := Lib.hid (show ∀ b, b = isSymbolB (nth rs k).name → badRev g rs k = true from fun b _ => by unfold badRev; rw [hno]; simp)
        have Hin := Lib.hid (show (decide ((0 : Int) ≤ (nth rs k).type) && decide ((nth rs k).type ≤ (g.length : Int) - 1)) = false by
          unfold hasI at hno; simp only [Bool.and_eq_false_iff, decide_eq_false_iff_not] at hno ⊢; omega)
        clear hno hin hrl
        go_upto_region 11 with (fail)
        obtain ⟨W6, hW6⟩ : ∃ W6 : World, W6 = wr.alloc (.cells #[.string (nth rs k).name, .bool (nth rs k).full, .int .i64 (nth rs k).type] 43) := ⟨_, rfl⟩
        obtain ⟨bx, hbx⟩ : ∃ bx, bx = wr.heap.size := ⟨_, rfl⟩
        have hbn : W6.heap[bx]? = some (.cells #[.string (nth rs k).name, .bool (nth rs k).full, .int .i64 (nth rs k).type] 43 (0, 0)) := by rw [hW6, hbx]; exact heap_alloc_new _ _
        have hE6 : Ext wr W6 := by rw [hW6]; exact Ext.alloc _ _
        rw [← hW6, ← hbx]
        have x0 := row_cell hbn (j := 0) rfl
        have x1 := row_cell hbn (j := 1) rfl
        have x2 := row_cell hbn (j := 2) rfl
        have HI := Lib.hid (HI.out.grow hE6)
        clear hW6 hbx hbn hE6 d0 d1 d2 c0 c1 c3
        have hwr : IntKind.i64.wrap ((g.length : Int) - 1) = (g.length : Int) - 1 := by rw [IntKind.wrap_i64]; omega
        refine wp_region_E 99 (by kernel_rfl) ?_
        change wpE _ _ _ _ _ _ _ _ (World.drew _)
        refine tE (i := 0) (v := ?_) (fun w9 hE => ?_) ?_
        rotate_left
        · clear hE; first | (go_simp; done) | (go_simp; with_reducible rfl)
        simp only [Act.put, nm]
        refine tE (i := 1) (v := ?_) (fun w9 hE => ?_) ?_
        rotate_left
        · have x0E := hE.cell x0; clear hE; first | (go_simp; done) | (go_simp; with_reducible rfl)
        simp only [Act.put, nm]
        refine wpE_only (i := 2) rfl (by kernel_rfl) (by kernel_rfl) (fun K hK => ?_)
        go_simp
        refine (isSymbol86 _ hnm _).mono ?_
        rintro e W7 ⟨rfl, hE⟩
        have hE' := (Ext.drew W6).trans hE
        have x0 := hE'.cell x0
        have x1 := hE'.cell x1
        have x2 := hE'.cell x2
        have HI := Lib.hid (HI.out.grow hE')
        refine hK _ _ (hE) ?_; clear hK K
        clear hE hE'
        cases hs1 : isSymbolB (nth rs k).name
        ·
          refine tE (i := 3) (v := ?_) (fun w9 hE => ?_) ?_
          rotate_left
          · clear hE; first | (go_simp; done) | (go_simp; with_reducible rfl)
          simp only [Act.put, nm]
          refine tE (i := 4) (v := ?_) (fun w9 hE => ?_) ?_
          rotate_left
          · clear hE; first | (go_simp; done) | (go_simp; with_reducible rfl)
          simp only [Act.put, nm]
          refine wpE_take (i := 5) (v := undef) rfl (by kernel_rfl) (by kernel_rfl) (by kernel_rfl) (fun _ _ _ h => h) (Or.inr ⟨by kernel_rfl, rfl⟩) ?_
          simp only [Act.put, nm]
          refine wpE_take (i := 6) (v := undef) rfl (by kernel_rfl) (by kernel_rfl) (by kernel_rfl) (fun _ _ _ h => h) (Or.inr ⟨by kernel_rfl, rfl⟩) ?_
          simp only [Act.put, nm]
          refine wpE_take (i := 7) (v := undef) rfl (by kernel_rfl) (by kernel_rfl) (by kernel_rfl) (fun _ _ _ h => h) (Or.inr ⟨by kernel_rfl, rfl⟩) ?_
          simp only [Act.put, nm]
          refine wpE_take (i := 8) (v := undef) rfl (by kernel_rfl) (by kernel_rfl) (by kernel_rfl) (fun _ _ _ h => h) (Or.inr ⟨by kernel_rfl, rfl⟩) ?_
          simp only [Act.put, nm]
          refine wpE_take (i := 9) (v := undef) rfl (by kernel_rfl) (by kernel_rfl) (by kernel_rfl) (fun _ _ _ h => h) (Or.inr ⟨by kernel_rfl, rfl⟩) ?_
          simp only [Act.put, nm]
          refine wpE_take (i := 10) (v := undef) rfl (by kernel_rfl) (by kernel_rfl) (by kernel_rfl) (fun _ _ _ h => h) (Or.inr ⟨by kernel_rfl, rfl⟩) ?_
          simp only [Act.put, nm]
          refine wpE_take (i := 11) (v := undef) rfl (by kernel_rfl) (by kernel_rfl) (by kernel_rfl) (fun _ _ _ h => h) (Or.inr ⟨by kernel_rfl, rfl⟩) ?_
          simp only [Act.put, nm]
          refine tE (i := 12) (v := ?_) (fun w9 hE => ?_) ?_
          rotate_left
          · clear hE; first | (go_simp; done) | (go_simp; with_reducible rfl)
          simp only [Act.put, nm]
          refine tE (i := 13) (v := ?_) (fun w9 hE => ?_) ?_
          rotate_left
          · clear hE; first | (go_simp; done) | (go_simp; with_reducible rfl)
          simp only [Act.put, nm]
          refine wpE_take (i := 14) (v := undef) rfl (by kernel_rfl) (by kernel_rfl) (by kernel_rfl) (fun _ _ _ h => h) (Or.inr ⟨by kernel_rfl, rfl⟩) ?_
          simp only [Act.put, nm]
          refine wpE_take (i := 15) (v := undef) rfl (by kernel_rfl) (by kernel_rfl) (by kernel_rfl) (fun _ _ _ h => h) (Or.inr ⟨by kernel_rfl, rfl⟩) ?_
          simp only [Act.put, nm]
          refine wpE_take (i := 16) (v := undef) rfl (by kernel_rfl) (by kernel_rfl) (by kernel_rfl) (fun _ _ _ h => h) (Or.inr ⟨by kernel_rfl, rfl⟩) ?_
          simp only [Act.put, nm]
          refine wpE_take (i := 17) (v := undef) rfl (by kernel_rfl) (by kernel_rfl) (by kernel_rfl) (fun _ _ _ h => h) (Or.inr ⟨by kernel_rfl, rfl⟩) ?_
          simp only [Act.put, nm]
          refine wpE_take (i := 18) (v := undef) rfl (by kernel_rfl) (by kernel_rfl) (by kernel_rfl) (fun _ _ _ h => h) (Or.inr ⟨by kernel_rfl, rfl⟩) ?_
          simp only [Act.put, nm]
          refine wpE_take (i := 19) (v := undef) rfl (by kernel_rfl) (by kernel_rfl) (by kernel_rfl) (fun _ _ _ h => h) (Or.inr ⟨by kernel_rfl, rfl⟩) ?_
          simp only [Act.put, nm]
          refine wpE_take (i := 20) (v := undef) rfl (by kernel_rfl) (by kernel_rfl) (by kernel_rfl) (fun _ _ _ h => h) (Or.inr ⟨by kernel_rfl, rfl⟩) ?_
          simp only [Act.put, nm]
          refine tE (i := 21) (v := ?_) (fun w9 hE => ?_) ?_
          rotate_left
          · clear hE; first | (go_simp; done) | (go_simp; with_reducible rfl)
          simp only [Act.put, nm]
          refine tE (i := 22) (v := ?_) (fun w9 hE => ?_) ?_
          rotate_left
          · clear hE; first | (go_simp; done) | (go_simp; with_reducible rfl)
          simp only [Act.put, nm]
          refine wpE_take (i := 23) (v := undef) rfl (by kernel_rfl) (by kernel_rfl) (by kernel_rfl) (fun _ _ _ h => h) (Or.inr ⟨by kernel_rfl, rfl⟩) ?_
          simp only [Act.put, nm]
          refine wpE_take (i := 24) (v := undef) rfl (by kernel_rfl) (by kernel_rfl) (by kernel_rfl) (fun _ _ _ h => h) (Or.inr ⟨by kernel_rfl, rfl⟩) ?_
          simp only [Act.put, nm]
          refine wpE_take (i := 25) (v := undef) rfl (by kernel_rfl) (by kernel_rfl) (by kernel_rfl) (fun _ _ _ h => h) (Or.inr ⟨by kernel_rfl, rfl⟩) ?_
          simp only [Act.put, nm]
          refine wpE_take (i := 26) (v := undef) rfl (by kernel_rfl) (by kernel_rfl) (by kernel_rfl) (fun _ _ _ h => h) (Or.inr ⟨by kernel_rfl, rfl⟩) ?_
          simp only [Act.put, nm]
          refine wpE_take (i := 27) (v := undef) rfl (by kernel_rfl) (by kernel_rfl) (by kernel_rfl) (fun _ _ _ h => h) (Or.inr ⟨by kernel_rfl, rfl⟩) ?_
          simp only [Act.put, nm]
          refine wpE_take (i := 28) (v := undef) rfl (by kernel_rfl) (by kernel_rfl) (by kernel_rfl) (fun _ _ _ h => h) (Or.inr ⟨by kernel_rfl, rfl⟩) ?_
          simp only [Act.put, nm]
          refine wpE_take (i := 29) (v := undef) rfl (by kernel_rfl) (by kernel_rfl) (by kernel_rfl) (fun _ _ _ h => h) (Or.inr ⟨by kernel_rfl, rfl⟩) ?_
          simp only [Act.put, nm]
          refine tE (i := 30) (v := ?_) (fun w9 hE => ?_) ?_
          rotate_left
          · clear hE; first | (go_simp; done) | (go_simp; with_reducible rfl)
          simp only [Act.put, nm]
          refine tE (i := 31) (v := ?_) (fun w9 hE => ?_) ?_
          rotate_left
          · clear hE; first | (go_simp; done) | (go_simp; with_reducible rfl)
          simp only [Act.put, nm]
          refine wpE_take (i := 32) (v := undef) rfl (by kernel_rfl) (by kernel_rfl) (by kernel_rfl) (fun _ _ _ h => h) (Or.inr ⟨by kernel_rfl, rfl⟩) ?_
          simp only [Act.put, nm]
          refine wpE_take (i := 33) (v := undef) rfl (by kernel_rfl) (by kernel_rfl) (by kernel_rfl) (fun _ _ _ h => h) (Or.inr ⟨by kernel_rfl, rfl⟩) ?_
          simp only [Act.put, nm]
          refine wpE_take (i := 34) (v := undef) rfl (by kernel_rfl) (by kernel_rfl) (by kernel_rfl) (fun _ _ _ h => h) (Or.inr ⟨by kernel_rfl, rfl⟩) ?_
          simp only [Act.put, nm]
          refine wpE_take (i := 35) (v := undef) rfl (by kernel_rfl) (by kernel_rfl) (by kernel_rfl) (fun _ _ _ h => h) (Or.inr ⟨by kernel_rfl, rfl⟩) ?_
          simp only [Act.put, nm]
          refine wpE_take (i := 36) (v := undef) rfl (by kernel_rfl) (by kernel_rfl) (by kernel_rfl) (fun _ _ _ h => h) (Or.inr ⟨by kernel_rfl, rfl⟩) ?_
          simp only [Act.put, nm]
          refine wpE_take (i := 37) (v := undef) rfl (by kernel_rfl) (by kernel_rfl) (by kernel_rfl) (fun _ _ _ h => h) (Or.inr ⟨by kernel_rfl, rfl⟩) ?_
          simp only [Act.put, nm]
          refine wpE_take (i := 38) (v := undef) rfl (by kernel_rfl) (by kernel_rfl) (by kernel_rfl) (fun _ _ _ h => h) (Or.inr ⟨by kernel_rfl, rfl⟩) ?_
          simp only [Act.put, nm]
          refine wpE_take (i := 39) (v := undef) rfl (by kernel_rfl) (by kernel_rfl) (by kernel_rfl) (fun _ _ _ h => h) (Or.inr ⟨by kernel_rfl, rfl⟩) ?_
          simp only [Act.put, nm]
          refine wpE_take (i := 40) (v := undef) rfl (by kernel_rfl) (by kernel_rfl) (by kernel_rfl) (fun _ _ _ h => h) (Or.inr ⟨by kernel_rfl, rfl⟩) ?_
          simp only [Act.put, nm]
          refine wpE_take (i := 41) (v := undef) rfl (by kernel_rfl) (by kernel_rfl) (by kernel_rfl) (fun _ _ _ h => h) (Or.inr ⟨by kernel_rfl, rfl⟩) ?_
          simp only [Act.put, nm]
          refine wpE_take (i := 42) (v := undef) rfl (by kernel_rfl) (by kernel_rfl) (by kernel_rfl) (fun _ _ _ h => h) (Or.inr ⟨by kernel_rfl, rfl⟩) ?_
          simp only [Act.put, nm]
          refine wpE_take (i := 43) (v := undef) rfl (by kernel_rfl) (by kernel_rfl) (by kernel_rfl) (fun _ _ _ h => h) (Or.inr ⟨by kernel_rfl, rfl⟩) ?_
          simp only [Act.put, nm]
          refine wpE_take (i := 44) (v := undef) rfl (by kernel_rfl) (by kernel_rfl) (by kernel_rfl) (fun _ _ _ h => h) (Or.inr ⟨by kernel_rfl, rfl⟩) ?_
          simp only [Act.put, nm]
          refine wpE_take (i := 45) (v := undef) rfl (by kernel_rfl) (by kernel_rfl) (by kernel_rfl) (fun _ _ _ h => h) (Or.inr ⟨by kernel_rfl, rfl⟩) ?_
          simp only [Act.put, nm]
          refine wpE_take (i := 46) (v := undef) rfl (by kernel_rfl) (by kernel_rfl) (by kernel_rfl) (fun _ _ _ h => h) (Or.inr ⟨by kernel_rfl, rfl⟩) ?_
          simp only [Act.put, nm]
          refine wpE_take (i := 47) (v := undef) rfl (by kernel_rfl) (by kernel_rfl) (by kernel_rfl) (fun _ _ _ h => h) (Or.inr ⟨by kernel_rfl, rfl⟩) ?_
          simp only [Act.put, nm]
          refine wpE_take (i := 48) (v := undef) rfl (by kernel_rfl) (by kernel_rfl) (by kernel_rfl) (fun _ _ _ h => h) (Or.inr ⟨by kernel_rfl, rfl⟩) ?_
          simp only [Act.put, nm]
          refine tE (i := 49) (v := ?_) (fun w9 hE => ?_) ?_
          rotate_left
          · clear hE; first | (go_simp; done) | (go_simp; with_reducible rfl)
          simp only [Act.put, nm]
          refine wpE_done (by kernel_rfl) (by kernel_rfl) ?_
          have Hs := Lib.hid (openE_bad H0.out h6 hlt (show badRev g rs k = true by unfold badRev; rw [hs1]; rfl))
          have HX := Lib.hid HI.out.ext
          clear HI
          go_wp2_with fail
          go_ret2
          exact Or.inr ⟨by rw [Hs.out]; decide, by rw [Hs.out]; rfl, HX.out⟩
        ·
          refine tE (i := 3) (v := ?_) (fun w9 hE => ?_) ?_
          rotate_left
          · clear hE; first | (go_simp; done) | (go_simp; with_reducible rfl)
          simp only [Act.put, nm]
          refine tE (i := 4) (v := ?_) (fun w9 hE => ?_) ?_
          rotate_left
          · clear hE; first | (go_simp; done) | (go_simp; with_reducible rfl)
          simp only [Act.put, nm]
          refine tE (i := 5) (v := ?_) (fun w9 hE => ?_) ?_
          rotate_left
          · clear hE; first | (go_simp; done) | (go_simp; with_reducible rfl)
          simp only [Act.put, nm]
          refine tE (i := 6) (v := ?_) (fun w9 hE => ?_) ?_
          rotate_left
          · have x2E := hE.cell x2; clear hE; first | (go_simp; done) | (go_simp; with_reducible rfl)
          simp only [Act.put, nm]
          refine tE (i := 7) (v := ?_) (fun w9 hE => ?_) ?_
          rotate_left
          · clear hE; first | (go_simp; done) | (go_simp; with_reducible rfl)
          simp only [Act.put, nm]
          refine tE (i := 8) (v := ?_) (fun w9 hE => ?_) ?_
          rotate_left
          · clear hE; first | (go_simp; done) | (go_simp; with_reducible rfl)
          simp only [Act.put, nm]
          refine tE (i := 9) (v := ?_) (fun w9 hE => ?_) ?_
          rotate_left
          · clear hE; first | (go_simp; done) | (go_simp; with_reducible rfl)
          simp only [Act.put, nm]
          refine wpE_only (i := 10) rfl (by kernel_rfl) (by kernel_rfl) (fun K hK => ?_)
          go_simp
          refine (in81 _ _ _ _).mono ?_
          rintro e W8 ⟨rfl, rfl⟩
          rw [Hin.out]
          refine hK _ _ ((Ext.refl _)) ?_; clear hK K
          clear hwr
          refine tE (i := 11) (v := ?_) (fun w9 hE => ?_) ?_
          rotate_left
          · clear hE; first | (go_simp; done) | (go_simp; with_reducible rfl)
          simp only [Act.put, nm]
          refine tE (i := 12) (v := ?_) (fun w9 hE => ?_) ?_
          rotate_left
          · clear hE; first | (go_simp; done) | (go_simp; with_reducible rfl)
          simp only [Act.put, nm]
          refine tE (i := 13) (v := ?_) (fun w9 hE => ?_) ?_
          rotate_left
          · clear hE; first | (go_simp; done) | (go_simp; with_reducible rfl)
          simp only [Act.put, nm]
          refine wpE_take (i := 14) (v := undef) rfl (by kernel_rfl) (by kernel_rfl) (by kernel_rfl) (fun _ _ _ h => h) (Or.inr ⟨by kernel_rfl, rfl⟩) ?_
          simp only [Act.put, nm]
          refine wpE_take (i := 15) (v := undef) rfl (by kernel_rfl) (by kernel_rfl) (by kernel_rfl) (fun _ _ _ h => h) (Or.inr ⟨by kernel_rfl, rfl⟩) ?_
          simp only [Act.put, nm]
          refine wpE_take (i := 16) (v := undef) rfl (by kernel_rfl) (by kernel_rfl) (by kernel_rfl) (fun _ _ _ h => h) (Or.inr ⟨by kernel_rfl, rfl⟩) ?_
          simp only [Act.put, nm]
          refine wpE_take (i := 17) (v := undef) rfl (by kernel_rfl) (by kernel_rfl) (by kernel_rfl) (fun _ _ _ h => h) (Or.inr ⟨by kernel_rfl, rfl⟩) ?_
          simp only [Act.put, nm]
          refine wpE_take (i := 18) (v := undef) rfl (by kernel_rfl) (by kernel_rfl) (by kernel_rfl) (fun _ _ _ h => h) (Or.inr ⟨by kernel_rfl, rfl⟩) ?_
          simp only [Act.put, nm]
          refine wpE_take (i := 19) (v := undef) rfl (by kernel_rfl) (by kernel_rfl) (by kernel_rfl) (fun _ _ _ h => h) (Or.inr ⟨by kernel_rfl, rfl⟩) ?_
          simp only [Act.put, nm]
          refine wpE_take (i := 20) (v := undef) rfl (by kernel_rfl) (by kernel_rfl) (by kernel_rfl) (fun _ _ _ h => h) (Or.inr ⟨by kernel_rfl, rfl⟩) ?_
          simp only [Act.put, nm]
          refine tE (i := 21) (v := ?_) (fun w9 hE => ?_) ?_
          rotate_left
          · clear hE; first | (go_simp; done) | (go_simp; with_reducible rfl)
          simp only [Act.put, nm]
          refine tE (i := 22) (v := ?_) (fun w9 hE => ?_) ?_
          rotate_left
          · clear hE; first | (go_simp; done) | (go_simp; with_reducible rfl)
          simp only [Act.put, nm]
          refine wpE_take (i := 23) (v := undef) rfl (by kernel_rfl) (by kernel_rfl) (by kernel_rfl) (fun _ _ _ h => h) (Or.inr ⟨by kernel_rfl, rfl⟩) ?_
          simp only [Act.put, nm]
          refine wpE_take (i := 24) (v := undef) rfl (by kernel_rfl) (by kernel_rfl) (by kernel_rfl) (fun _ _ _ h => h) (Or.inr ⟨by kernel_rfl, rfl⟩) ?_
          simp only [Act.put, nm]
          refine wpE_take (i := 25) (v := undef) rfl (by kernel_rfl) (by kernel_rfl) (by kernel_rfl) (fun _ _ _ h => h) (Or.inr ⟨by kernel_rfl, rfl⟩) ?_
          simp only [Act.put, nm]
          refine wpE_take (i := 26) (v := undef) rfl (by kernel_rfl) (by kernel_rfl) (by kernel_rfl) (fun _ _ _ h => h) (Or.inr ⟨by kernel_rfl, rfl⟩) ?_
          simp only [Act.put, nm]
          refine wpE_take (i := 27) (v := undef) rfl (by kernel_rfl) (by kernel_rfl) (by kernel_rfl) (fun _ _ _ h => h) (Or.inr ⟨by kernel_rfl, rfl⟩) ?_
          simp only [Act.put, nm]
          refine wpE_take (i := 28) (v := undef) rfl (by kernel_rfl) (by kernel_rfl) (by kernel_rfl) (fun _ _ _ h => h) (Or.inr ⟨by kernel_rfl, rfl⟩) ?_
          simp only [Act.put, nm]
          refine wpE_take (i := 29) (v := undef) rfl (by kernel_rfl) (by kernel_rfl) (by kernel_rfl) (fun _ _ _ h => h) (Or.inr ⟨by kernel_rfl, rfl⟩) ?_
          simp only [Act.put, nm]
          refine tE (i := 30) (v := ?_) (fun w9 hE => ?_) ?_
          rotate_left
          · clear hE; first | (go_simp; done) | (go_simp; with_reducible rfl)
          simp only [Act.put, nm]
          refine tE (i := 31) (v := ?_) (fun w9 hE => ?_) ?_
          rotate_left
          · clear hE; first | (go_simp; done) | (go_simp; with_reducible rfl)
          simp only [Act.put, nm]
          refine wpE_take (i := 32) (v := undef) rfl (by kernel_rfl) (by kernel_rfl) (by kernel_rfl) (fun _ _ _ h => h) (Or.inr ⟨by kernel_rfl, rfl⟩) ?_
          simp only [Act.put, nm]
          refine wpE_take (i := 33) (v := undef) rfl (by kernel_rfl) (by kernel_rfl) (by kernel_rfl) (fun _ _ _ h => h) (Or.inr ⟨by kernel_rfl, rfl⟩) ?_
          simp only [Act.put, nm]
          refine wpE_take (i := 34) (v := undef) rfl (by kernel_rfl) (by kernel_rfl) (by kernel_rfl) (fun _ _ _ h => h) (Or.inr ⟨by kernel_rfl, rfl⟩) ?_
          simp only [Act.put, nm]
          refine wpE_take (i := 35) (v := undef) rfl (by kernel_rfl) (by kernel_rfl) (by kernel_rfl) (fun _ _ _ h => h) (Or.inr ⟨by kernel_rfl, rfl⟩) ?_
          simp only [Act.put, nm]
          refine wpE_take (i := 36) (v := undef) rfl (by kernel_rfl) (by kernel_rfl) (by kernel_rfl) (fun _ _ _ h => h) (Or.inr ⟨by kernel_rfl, rfl⟩) ?_
          simp only [Act.put, nm]
          refine wpE_take (i := 37) (v := undef) rfl (by kernel_rfl) (by kernel_rfl) (by kernel_rfl) (fun _ _ _ h => h) (Or.inr ⟨by kernel_rfl, rfl⟩) ?_
          simp only [Act.put, nm]
          refine wpE_take (i := 38) (v := undef) rfl (by kernel_rfl) (by kernel_rfl) (by kernel_rfl) (fun _ _ _ h => h) (Or.inr ⟨by kernel_rfl, rfl⟩) ?_
          simp only [Act.put, nm]
          refine wpE_take (i := 39) (v := undef) rfl (by kernel_rfl) (by kernel_rfl) (by kernel_rfl) (fun _ _ _ h => h) (Or.inr ⟨by kernel_rfl, rfl⟩) ?_
          simp only [Act.put, nm]
          refine wpE_take (i := 40) (v := undef) rfl (by kernel_rfl) (by kernel_rfl) (by kernel_rfl) (fun _ _ _ h => h) (Or.inr ⟨by kernel_rfl, rfl⟩) ?_
          simp only [Act.put, nm]
          refine wpE_take (i := 41) (v := undef) rfl (by kernel_rfl) (by kernel_rfl) (by kernel_rfl) (fun _ _ _ h => h) (Or.inr ⟨by kernel_rfl, rfl⟩) ?_
          simp only [Act.put, nm]
          refine wpE_take (i := 42) (v := undef) rfl (by kernel_rfl) (by kernel_rfl) (by kernel_rfl) (fun _ _ _ h => h) (Or.inr ⟨by kernel_rfl, rfl⟩) ?_
          simp only [Act.put, nm]
          refine wpE_take (i := 43) (v := undef) rfl (by kernel_rfl) (by kernel_rfl) (by kernel_rfl) (fun _ _ _ h => h) (Or.inr ⟨by kernel_rfl, rfl⟩) ?_
          simp only [Act.put, nm]
          refine wpE_take (i := 44) (v := undef) rfl (by kernel_rfl) (by kernel_rfl) (by kernel_rfl) (fun _ _ _ h => h) (Or.inr ⟨by kernel_rfl, rfl⟩) ?_
          simp only [Act.put, nm]
          refine wpE_take (i := 45) (v := undef) rfl (by kernel_rfl) (by kernel_rfl) (by kernel_rfl) (fun _ _ _ h => h) (Or.inr ⟨by kernel_rfl, rfl⟩) ?_
          simp only [Act.put, nm]
          refine wpE_take (i := 46) (v := undef) rfl (by kernel_rfl) (by kernel_rfl) (by kernel_rfl) (fun _ _ _ h => h) (Or.inr ⟨by kernel_rfl, rfl⟩) ?_
          simp only [Act.put, nm]
          refine wpE_take (i := 47) (v := undef) rfl (by kernel_rfl) (by kernel_rfl) (by kernel_rfl) (fun _ _ _ h => h) (Or.inr ⟨by kernel_rfl, rfl⟩) ?_
          simp only [Act.put, nm]
          refine wpE_take (i := 48) (v := undef) rfl (by kernel_rfl) (by kernel_rfl) (by kernel_rfl) (fun _ _ _ h => h) (Or.inr ⟨by kernel_rfl, rfl⟩) ?_
          simp only [Act.put, nm]
          refine tE (i := 49) (v := ?_) (fun w9 hE => ?_) ?_
          rotate_left
          · clear hE; first | (go_simp; done) | (go_simp; with_reducible rfl)
          simp only [Act.put, nm]
          refine wpE_done (by kernel_rfl) (by kernel_rfl) ?_
          have Hs := Lib.hid (openE_bad H0.out h6 hlt (show badRev g rs k = true by exact hbad.out _ rfl))
          have HX := Lib.hid HI.out.ext
          clear HI
          go_wp2_with fail
          go_ret2
          exact Or.inr ⟨by rw [Hs.out]; decide, by rw [Hs.out]; rfl, HX.out⟩
    · have : k = rs.length := by omega
      subst this
      have hE03 := HE.out.trans (HE2.out.trans HE3.out)
      have hs53 := HE5.out.size
      have hE3r : Ext w3 wr := ⟨hI.ext.os.trans hE03.os.symm, hI.ext.tape.trans hE03.tape.symm, hI.ext.output.trans hE03.output.symm, by have := hI.size; omega,
        fun j hj => (hI.blk j (by omega) (by rw [Hmb.out]; omega) (by rw [Hmf.out]; omega)).trans (HE5.out.block j hj)⟩
      have hvl : vb < W5.heap.size := row_lt B2.out
      have hvrow : wr.heap[vb]? = some (.cells #[.slice gva g.length gvc, .slice (some ⟨r, 0, none⟩) g.length g.length, .slice rva rs.length rvc, .map (some mb), .slice none 0 0] 103 (0, 0)) :=
        (hI.blk vb hvl (by rw [Hmb.out, Hvb.out]; omega) (by rw [Hmf.out, Hvb.out]; omega)).trans B2.out
      have hcls : ∀ i, i < g.length → -9223372036854775808 ≤ (classesOf g i : Int) ∧ (classesOf g i : Int) ≤ 9223372036854775807 := fun i hi => by have := classesOf_le g i; omega
      have hcb : g.length * 8 ≤ maxBytes := by unfold maxBytes; omega
      have hbyl : ∀ name, (byN rs rs.length name).length * 8 ≤ maxBytes := fun name => by have := byN_len rs rs.length name; unfold maxBytes; omega
      have hbyi : ∀ name x, x ∈ numsOf (byN rs rs.length name) → -9223372036854775808 ≤ x ∧ x ≤ 9223372036854775807 := fun name x hx => by
        unfold numsOf at hx
        obtain ⟨i, hi, rfl⟩ := List.mem_map.1 hx
        have := byN_lt hi
        omega
      have hRe3 : Reveals w3 (.slice rva rs.length rvc) rs := slw_of_owns Hown.out (fun i hi => Hf.out i hi) (by unfold maxBytes; omega)
      have hcl3 : Ints w3 (.slice (some ⟨r, 0, none⟩) g.length g.length) ((List.range g.length).map fun i => (classesOf g i : Int)) := Ints.mono (HE2.out.trans HE3.out) (RowI.ints Hrow.out hcb hcls)
      have hEnv : EnvW wr vb g (classesOf g) rs [] (.slice gva g.length gvc) (.slice (some ⟨r, 0, none⟩) g.length g.length) (.slice rva rs.length rvc) (.slice none 0 0) :=
        ⟨row_cell hvrow rfl, row_cell hvrow rfl, row_cell hvrow rfl, row_cell hvrow rfl, Graph.le hI.le HG5.out, Ints.mono hE3r hcl3, Reveals.mono hE3r hRe3, SlW.nil _ _ _⟩
      have hBy : ByAt wr vb rs mb m := ⟨row_cell hvrow rfl, hI.at_, fun name => owns_ints (hI.rows name) (hbyl name) (hbyi name)⟩
      have hcirc := Lib.hid (circles87 vb g (classesOf g) rs [] _ _ _ _ mb m wr hEnv hBy h400 (by omega) Hr.out (fun i hi => rev_in (Hgood.out i hi)) (fun i hi => Nat.lt_of_le_of_lt (classesOf_le g i) hi))
      have Hoe := Lib.hid (openE_circ H0.out h6 Hgood.out)
      have hfin := Lib.hid (show ∀ w', Ext wr w' → EnvO w w' vb g rs (.slice gva g.length gvc) (.slice (some ⟨r, 0, none⟩) g.length g.length) (.slice rva rs.length rvc) mb m from fun w' hE' => by
        have hE3w := hE3r.trans hE'
        have s3 := HE3.out.size
        have s2 := HE2.out.size
        have s1 := HE.out.size
        have hvb2 := Hvb.out
        have hleB : ∀ A, Ext A w' → CellLe (only A (fromB w1.heap.size)) (only w' (fromB w1.heap.size)) := fun A h => h.only _
        refine ⟨hI.ext.trans hE', by omega, (hE'.block vb (row_lt hvrow)).trans hvrow, ?_, ?_, ?_, by rw [Hmb.out]; omega, hI.at_.ext hE', fun name => ?_⟩
        · refine Graph.le ?_ Hgv.out
          intro a v hc
          obtain ⟨h1, h2⟩ := only_cell hc
          have hlt := cell_lt h1
          unfold fromB at h2
          simp only [decide_eq_true_eq] at h2
          refine cell_only ?_ ((HE3.out.trans hE3w).cell h1)
          unfold fromB1
          simp only [Bool.and_eq_true, decide_eq_true_eq, bne_iff_ne, ne_eq]
          omega
        · have hr1 : w'.heap[r]? = w1.heap[r]? := ((HE2.out.trans HE3.out).trans hE3w).block r (row_lt Hrow.out)
          have hrv : (r != vb) = true := by have := row_lt Hrow.out; simp only [bne_iff_ne, ne_eq]; omega
          exact RowI.ints (w := only w' fun j => j != vb) (show (only w' fun j => j != vb).heap[r]? = _ by rw [only_see (p := fun j => j != vb) (j := r) hrv, hr1]; exact Hrow.out) hcb hcls
        · refine slw_of_owns (owns_only (owns_ext Hown.out hE3w) (fun j hj => ?_)) (fun i hi => Hf.out i hi) (by unfold maxBytes; omega)
          have := Hown.out.lt j hj
          unfold fromB1
          simp only [Bool.and_eq_true, decide_eq_true_eq, bne_iff_ne, ne_eq]
          omega
        · refine owns_ints (owns_only (owns_ext (hI.rows name) hE') (fun j hj => ?_)) (hbyl name) (hbyi name)
          have := ((hI.rows name).lt j hj).1
          unfold fromB1
          simp only [Bool.and_eq_true, decide_eq_true_eq, bne_iff_ne, ne_eq]
          omega)
      have HX := Lib.hid hI.ext
      clear hE3r hvrow hcls hcb hbyl hbyi hRe3 hcl3 hEnv hBy hI hE03
      cases hcv : circB (succC g (classesOf g) rs) g.length (classesOf g)
      · rw [hcv] at hcirc Hoe
        clear hcv
        go_wp2_with fail
        refine hcirc.out.mono ?_
        rintro e w' ⟨rfl, hE'⟩
        have HE' := Lib.hid hE'
        clear hE'
        go_wp2_with fail
        go_ret2
        exact Or.inl ⟨by rw [Hoe.out]; rfl, vb, _, _, _, mb, m, rfl, hfin.out _ HE'.out⟩
      · rw [hcv] at hcirc Hoe
        clear hcv
        go_wp2_with fail
        refine hcirc.out.mono ?_
        rintro e w' ⟨rfl, hE'⟩
        have HE' := Lib.hid hE'
        clear hE'
        go_wp2_with fail
        go_ret2
        exact Or.inr ⟨by rw [Hoe.out]; decide, by rw [Hoe.out]; rfl, HX.out.trans HE'.out⟩
end Go.Proofs.YtjffkeoajkhbmaaGreat
