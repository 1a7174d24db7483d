/- sub.ups: what one goes up to, yielded. -/
import Derived.Test.YtjffkeoajkhbmaaGreatM14
import Derived.Test.YtjffkeoajkhbmaaGreatM15
namespace Go.Proofs.YtjffkeoajkhbmaaGreat
open Go.RowKit Go.Proofs Go.Shelf
set_option linter.unusedSimpArgs false
attribute [local go_sem] Oper.semAt_some
theorem upsL_super {g : List Ty} {rs : List Reveal} {t : Nat} (h : hasSuperB (nth g t).kind = true) : [(nth g t).super.toNat] <+: upsL g rs t := by
  unfold upsL; rw [if_pos h]; exact ⟨_, rfl⟩
def upsTo (g : List Ty) (rs : List Reveal) (t k : Nat) : List Nat := (nth g t).super.toNat :: ((byN rs rs.length (nth g t).opq).take k).map fun i => (nth rs i).type.toNat
theorem upsTo_all {g : List Ty} {rs : List Reveal} {t : Nat} (h : hasSuperB (nth g t).kind = true) (h13 : (nth g t).kind = 13) : upsTo g rs t (byN rs rs.length (nth g t).opq).length = upsL g rs t := by
  unfold upsL upsTo; rw [if_pos h, if_pos h13, List.take_length]
theorem upsTo_succ {g : List Ty} {rs : List Reveal} {t k : Nat} (hk : k < (byN rs rs.length (nth g t).opq).length) : upsTo g rs t (k + 1) = upsTo g rs t k ++ [(nth rs (nth (byN rs rs.length (nth g t).opq) k)).type.toNat] := by
  unfold upsTo; rw [take_snoc hk]; simp
theorem upsTo_prefix {g : List Ty} {rs : List Reveal} {t k : Nat} (h : hasSuperB (nth g t).kind = true) (h13 : (nth g t).kind = 13) : upsTo g rs t k <+: upsL g rs t := by
  rw [← upsTo_all h h13]
  unfold upsTo
  rw [List.take_length]
  refine (List.prefix_cons_inj _).2 ?_
  conv => rhs; rw [← List.take_append_drop k (byN rs rs.length (nth g t).opq), List.map_append]
  exact List.prefix_append _ _
theorem upsL_lt {g : List Ty} {rs : List Reveal} {t : Nat} (hr : rightB g (nth g t) = true) (hrt : ∀ i, i < rs.length → 0 ≤ (nth rs i).type ∧ (nth rs i).type < g.length) : ∀ u, u ∈ upsL g rs t → u < g.length := by
  intro u hu
  unfold upsL at hu
  split at hu
  · rename_i hs
    have h1 := right_super hr hs
    rcases List.mem_cons.1 hu with rfl | hu
    · omega
    · split at hu
      · obtain ⟨i, hi, rfl⟩ := List.mem_map.1 hu
        have := hrt i (byN_lt hi)
        omega
      · cases hu
  · cases hu
theorem upsL_short {g : List Ty} {rs : List Reveal} {t : Nat} (h : hasSuperB (nth g t).kind = true) (h13 : (nth g t).kind ≠ 13) : upsL g rs t = [(nth g t).super.toNat] := by
  unfold upsL; rw [if_pos h, if_neg h13]
set_option maxRecDepth 100000 in
set_option maxHeartbeats 2000000 in
theorem ups155 (bs vb : Nat) (g : List Ty) (C : Nat → Nat) (rs : List Reveal) (S : List Nat) (gv cv rv av : Value) (mb : Nat) (mm : List (BA × Value)) (w0 w : World) (hv : EnvW w0 vb g C rs S gv cv rv av) (hby : ByAt w0 vb rs mb mm) (hE : Ext w0 w)
    (hr60 : rs.length ≤ 60) (t : Nat) (ht : t < g.length) (hr : rightB g (nth g t) = true) (hrt : ∀ i, i < rs.length → 0 ≤ (nth rs i).type ∧ (nth rs i).type < g.length) (b1 b2 : Nat) (h1 : w.heap[b1]? = some (.cells #[.pointer (some ⟨vb, 0, none⟩)] 28 (0, 0))) (h2 : w.heap[b2]? = some (.cells #[.int .i64 t] 3 (0, 0))) (hb1 : b1 ≠ bs) (hb2 : b2 ≠ bs) (m : Nat) :
    SeqStopsK Fence.wide m Tryz.prog 155 #[.pointer (some ⟨b1, 0, none⟩), .pointer (some ⟨b2, 0, none⟩)] (fun u : { u : Nat // u < g.length } => #[.int .i64 ((u.1 : Nat) : Int)]) (KpF w0.heap.size fun _ j => j = bs) (fun ys => ys.map (·.1) = upsL g rs t) (fun pre => pre.map (·.1) <+: upsL g rs t) (upsL g rs t).length w := by
  intro l JA JxA W hW hJA hJxA hYA hA0
  have hlt := upsL_lt hr hrt
  obtain ⟨J, hJd⟩ : ∃ J : List Nat → World → Prop, J = fun pre W => ∃ pa : List { u : Nat // u < g.length }, pa.map (·.1) = pre ∧ JA pa W := ⟨_, rfl⟩
  obtain ⟨Jx, hJxd⟩ : ∃ J : List Nat → World → Prop, J = fun pre W => ∃ pa : List { u : Nat // u < g.length }, pa.map (·.1) = pre ∧ JxA pa W := ⟨_, rfl⟩
  have h0 : J [] W := by rw [hJd]; exact ⟨[], rfl, hA0⟩
  have hJ : ∀ pre W1 W2, J pre W1 → Ext W1 W2 → J pre W2 := by
    intro pre W1 W2 h hE
    rw [hJd] at h ⊢
    obtain ⟨pa, h1, h2⟩ := h
    exact ⟨pa, h1, hJA pa W1 W2 none h2 (grown_of_ext hE) (fun r e => by cases e)⟩
  have hY : ∀ pre y W1, J pre W1 → pre ++ [y] <+: upsL g rs t → YieldAt Fence.wide (m - 1) Tryz.prog l #[.int .i64 ((y : Nat) : Int)] W1 fun e W' =>
      (e = .returned (.bool true) ∧ J (pre ++ [y]) W' ∧ KpF w0.heap.size (fun _ j => j = bs) W1 W') ∨ (e = .returned (.bool false) ∧ Jx (pre ++ [y]) W') := by
    intro pre y W1 h hp
    rw [hJd] at h
    obtain ⟨pa, h1, h2⟩ := h
    have hy : y < g.length := hlt y (hp.subset (by simp))
    obtain ⟨fn, tmps, assign, body, hr, hR⟩ := hYA pa ⟨y, hy⟩ W1 h2 (by have := pre_lt hp; rw [← h1] at this; simpa using this)
    refine ⟨fn, tmps, assign, body, hr, hR.mono ?_⟩
    rintro e W' (⟨rfl, a, b⟩ | ⟨rfl, a⟩)
    · exact Or.inl ⟨rfl, by rw [hJd]; exact ⟨_, by simp [h1], a⟩, b⟩
    · exact Or.inr ⟨rfl, by rw [hJxd]; exact ⟨_, by simp [h1], a⟩⟩
  refine CallsIn.mono (R := fun e W' => (∃ v, e = .returned v) ∧ ((∃ xs, xs = upsL g rs t ∧ J xs W') ∨ (∃ pre, pre <+: upsL g rs t ∧ Jx pre W'))) ?_ ?_
  rotate_left
  · rintro e W' ⟨hv, (⟨xs, rfl, h⟩ | ⟨pre, hp, h⟩)⟩
    · rw [hJd] at h
      obtain ⟨pa, h1, h2⟩ := h
      exact ⟨hv, Or.inl ⟨pa, h1, h2⟩⟩
    · rw [hJxd] at h
      obtain ⟨pa, h1, h2⟩ := h
      exact ⟨hv, Or.inr ⟨pa, (show pa.map (·.1) <+: upsL g rs t by rw [h1]; exact hp), h2⟩⟩
  clear hJA hJxA hYA hA0 hJd hJxd hlt
  have hEW : Ext w0 W := hE.trans hW
  have h1 := (hW.block b1 (row_lt h1)).trans h1
  have h2 := (hW.block b2 (row_lt h2)).trans h2
  obtain ⟨Inv, hInv⟩ : ∃ Inv : World → Prop, Inv = fun W' => Ext w0 W' ∧ W'.heap[b1]? = some (.cells #[.pointer (some ⟨vb, 0, none⟩)] 28 (0, 0)) ∧ W'.heap[b2]? = some (.cells #[.int .i64 t] 3 (0, 0)) := ⟨_, rfl⟩
  have HI := Lib.hid (show Inv W by rw [hInv]; exact ⟨hEW, h1, h2⟩)
  have HIE := Lib.hid (show ∀ A B, Inv A → Ext A B → Inv B from fun A B h hE => by rw [hInv] at h ⊢; exact ⟨h.1.trans hE, (hE.block b1 (row_lt h.2.1)).trans h.2.1, (hE.block b2 (row_lt h.2.2)).trans h.2.2⟩)
  have HID := Lib.hid (show ∀ A, Inv A → Ext w0 A ∧ A.cell? ⟨b1, 0, none⟩ = some (.pointer (some ⟨vb, 0, none⟩)) ∧ A.cell? ⟨b2, 0, none⟩ = some (.int .i64 t) from fun A h => by rw [hInv] at h; exact ⟨h.1, row_cell h.2.1 rfl, row_cell h.2.2 rfl⟩)
  have hY2 := Lib.hid (show ∀ pre y W1, (pre ++ [y] <+: upsL g rs t) → J pre W1 → Inv W1 → ∃ fn tmps assign body, (Instr.yield l #[.int .i64 ((y : Nat) : Int)]).run Tryz.prog W1 = .ok (.round l fn tmps assign body) W1 ∧
      RoundIn Fence.wide (m - 1) Tryz.prog l fn tmps assign body W1 (fun e W' => (e = .returned (.bool true) ∧ Hid (J (pre ++ [y]) W' ∧ Inv W')) ∨ (e = .returned (.bool false) ∧ Hid (Jx (pre ++ [y]) W'))) from
    fun pre y W1 hp h2 h3 => by
      obtain ⟨fn, tmps, assign, body, hy, hR⟩ := hY pre y W1 h2 hp
      refine ⟨fn, tmps, assign, body, hy, hR.mono ?_⟩
      rintro e W' (⟨rfl, a, b⟩ | ⟨rfl, a⟩)
      · refine Or.inl ⟨rfl, a, ?_⟩
        rw [hInv] at h3 ⊢
        exact ⟨Below.trans h3.1 b.below, b.cells _ _ _ _ hb1 h3.2.1, b.cells _ _ _ _ hb2 h3.2.2⟩
      · exact Or.inr ⟨rfl, a⟩)
  have hJa := Lib.hid (show ∀ pre W1 W2, J pre W1 → Ext W1 W2 → J pre W2 from hJ)
  have H0 := Lib.hid h0
  have Hv := Lib.hid hv
  have Hby := Lib.hid hby
  have Hrt := Lib.hid hrt
  clear hrt hY hJ h0 hInv h1 h2 hE hW hEW
  obtain ⟨ga, gc, rfl, -⟩ := id hv.gr
  obtain ⟨ca, cc, rfl, -⟩ := id hv.cl
  obtain ⟨ra, rc, rfl, -⟩ := id hv.re
  have hb := (SlW.bound hv.gr).2
  clear hv hby
  obtain ⟨cn, hcn⟩ : ∃ cn, cn = ((List.range g.length).map fun i => (C i : Int)).length := ⟨_, rfl⟩
  refine callsIn_of_wp Tryz.func155 rfl trivial ?_ rfl
  simp only [Tryz.ntmps155, List.size_toArray, List.length_cons, List.length_nil, Nat.reduceAdd, Nat.reduceSub, Array.replicate_succ, Array.replicate_zero, List.push_toArray, List.append_toArray, List.nil_append, List.cons_append]
  have hd := HID.out _ HI.out
  have c0 := hd.1.cell Hv.out.c0
  have c1 := hd.1.cell Hv.out.c1
  rw [← hcn] at c1
  have x1 := hd.2.1
  have x2 := hd.2.2
  have Habove := Lib.hid (fun A (h : Ext W A) => isAbove97 _ g.length gc (.slice ca cn cc) g t A (Graph.mono (hd.1.trans h) Hv.out.gr) ht ⟨ca, cn, cc, rfl⟩)
  clear hd hcn
  gi_upto_region 0 with (fail)
  refine wpIn_region_any (by kernel_rfl) ?_
  change wpAnyIn _ _ _ _ _ _ _ _ _ (World.drew _)
  refine wpAnyIn_look (i := 0) (fu := 1) (v := ?_) rfl (by kernel_rfl) (by kernel_rfl) (by kernel_rfl) (by kernel_rfl) (by kernel_rfl) (fun _ _ _ h => h) (Or.inl ⟨by kernel_rfl, ?_⟩) rfl ?_
  rotate_left
  · first | (go_simp; done) | (go_simp; with_reducible rfl)
  simp only [Act.put, nm]
  refine wpAnyIn_look (i := 1) (fu := 1) (v := ?_) rfl (by kernel_rfl) (by kernel_rfl) (by kernel_rfl) (by kernel_rfl) (by kernel_rfl) (fun _ _ _ h => h) (Or.inl ⟨by kernel_rfl, ?_⟩) rfl ?_
  rotate_left
  · first | (go_simp; done) | (go_simp; with_reducible rfl)
  simp only [Act.put, nm]
  refine wpAnyIn_look (i := 2) (fu := 1) (v := ?_) rfl (by kernel_rfl) (by kernel_rfl) (by kernel_rfl) (by kernel_rfl) (by kernel_rfl) (fun _ _ _ h => h) (Or.inl ⟨by kernel_rfl, ?_⟩) rfl ?_
  rotate_left
  · first | (go_simp; done) | (go_simp; with_reducible rfl)
  simp only [Act.put, nm]
  refine wpAnyIn_look (i := 3) (fu := 1) (v := ?_) rfl (by kernel_rfl) (by kernel_rfl) (by kernel_rfl) (by kernel_rfl) (by kernel_rfl) (fun _ _ _ h => h) (Or.inl ⟨by kernel_rfl, ?_⟩) rfl ?_
  rotate_left
  · first | (go_simp; done) | (go_simp; with_reducible rfl)
  simp only [Act.put, nm]
  refine wpAnyIn_look (i := 4) (fu := 0) (v := ?_) rfl (by kernel_rfl) (by kernel_rfl) (by kernel_rfl) (by kernel_rfl) (by kernel_rfl) (fun _ _ _ h => h) (Or.inl ⟨by kernel_rfl, ?_⟩) rfl ?_
  rotate_left
  · first | (go_simp; done) | (go_simp; with_reducible rfl)
  simp only [Act.put, nm]
  refine wpAnyIn_only (i := 5) rfl (by kernel_rfl) (fun K hK => ?_)
  go_simp
  refine ⟨trivial, fun h => (by cases h), callsIn_wide.2 ((Habove.out _ (Ext.drew _)).mono ?_)⟩
  rintro e W1 ⟨rfl, hE⟩
  have HI1 := Lib.hid (HIE.out _ _ HI.out ((Ext.drew _).trans hE))
  have HJ1 := Lib.hid (hJa.out _ _ _ H0.out ((Ext.drew _).trans hE))
  clear hE HI H0 c0 c1 x1 x2
  have hd := HID.out _ HI1.out
  have c0 := hd.1.cell Hv.out.c0
  have c3 := hd.1.cell Hby.out.c3
  have x1 := hd.2.1
  have x2 := hd.2.2
  obtain ⟨b, off, pa, pl, pc, ma, ml, mc, oa, ol, oc, rfl, hlt2, hT⟩ := Graph.at (Graph.mono hd.1 Hv.out.gr) ht
  have d6 := hT.c6
  have hl0 := hT.ok.s0
  have hl1 := hT.ok.s1
  clear hd hT
  refine hK _ _ ?_; clear hK K
  cases hs : hasSuperB (nth g t).kind
  · have Hs := Lib.hid (show upsL g rs t = [] by unfold upsL; rw [hs]; rfl)
    clear hs
    refine wpAnyIn_look (i := 6) (fu := 0) (v := ?_) rfl (by kernel_rfl) (by kernel_rfl) (by kernel_rfl) (by kernel_rfl) (by kernel_rfl) (fun _ _ _ h => h) (Or.inl ⟨by kernel_rfl, ?_⟩) rfl ?_
    rotate_left
    · first | (go_simp; done) | (go_simp; with_reducible rfl)
    simp only [Act.put, nm]
    refine wpAnyIn_look (i := 7) (fu := 0) (v := ?_) rfl (by kernel_rfl) (by kernel_rfl) (by kernel_rfl) (by kernel_rfl) (by kernel_rfl) (fun _ _ _ h => h) (Or.inl ⟨by kernel_rfl, ?_⟩) rfl ?_
    rotate_left
    · first | (go_simp; done) | (go_simp; with_reducible rfl)
    simp only [Act.put, nm]
    refine wpAnyIn_look (i := 14) (fu := 5) (v := undef) rfl (by kernel_rfl) (by kernel_rfl) (by kernel_rfl) (by kernel_rfl) (by kernel_rfl) (fun _ _ _ h => h) (Or.inr ⟨by kernel_rfl, rfl⟩) rfl ?_
    simp only [Act.put, nm]
    refine wpAnyIn_look (i := 9) (fu := 1) (v := undef) rfl (by kernel_rfl) (by kernel_rfl) (by kernel_rfl) (by kernel_rfl) (by kernel_rfl) (fun _ _ _ h => h) (Or.inr ⟨by kernel_rfl, rfl⟩) rfl ?_
    simp only [Act.put, nm]
    refine wpAnyIn_look (i := 10) (fu := 1) (v := undef) rfl (by kernel_rfl) (by kernel_rfl) (by kernel_rfl) (by kernel_rfl) (by kernel_rfl) (fun _ _ _ h => h) (Or.inr ⟨by kernel_rfl, rfl⟩) rfl ?_
    simp only [Act.put, nm]
    refine wpAnyIn_look (i := 11) (fu := 1) (v := undef) rfl (by kernel_rfl) (by kernel_rfl) (by kernel_rfl) (by kernel_rfl) (by kernel_rfl) (fun _ _ _ h => h) (Or.inr ⟨by kernel_rfl, rfl⟩) rfl ?_
    simp only [Act.put, nm]
    refine wpAnyIn_look (i := 12) (fu := 1) (v := undef) rfl (by kernel_rfl) (by kernel_rfl) (by kernel_rfl) (by kernel_rfl) (by kernel_rfl) (fun _ _ _ h => h) (Or.inr ⟨by kernel_rfl, rfl⟩) rfl ?_
    simp only [Act.put, nm]
    refine wpAnyIn_look (i := 13) (fu := 1) (v := undef) rfl (by kernel_rfl) (by kernel_rfl) (by kernel_rfl) (by kernel_rfl) (by kernel_rfl) (fun _ _ _ h => h) (Or.inr ⟨by kernel_rfl, rfl⟩) rfl ?_
    simp only [Act.put, nm]
    refine wpAnyIn_look (i := 15) (fu := 1) (v := undef) rfl (by kernel_rfl) (by kernel_rfl) (by kernel_rfl) (by kernel_rfl) (by kernel_rfl) (fun _ _ _ h => h) (Or.inr ⟨by kernel_rfl, rfl⟩) rfl ?_
    simp only [Act.put, nm]
    refine wpAnyIn_look (i := 16) (fu := 1) (v := undef) rfl (by kernel_rfl) (by kernel_rfl) (by kernel_rfl) (by kernel_rfl) (by kernel_rfl) (fun _ _ _ h => h) (Or.inr ⟨by kernel_rfl, rfl⟩) rfl ?_
    simp only [Act.put, nm]
    refine wpAnyIn_look (i := 17) (fu := 1) (v := undef) rfl (by kernel_rfl) (by kernel_rfl) (by kernel_rfl) (by kernel_rfl) (by kernel_rfl) (fun _ _ _ h => h) (Or.inr ⟨by kernel_rfl, rfl⟩) rfl ?_
    simp only [Act.put, nm]
    refine wpAnyIn_look (i := 8) (fu := 0) (v := undef) rfl (by kernel_rfl) (by kernel_rfl) (by kernel_rfl) (by kernel_rfl) (by kernel_rfl) (fun _ _ _ h => h) (Or.inr ⟨by kernel_rfl, rfl⟩) rfl ?_
    simp only [Act.put, nm]
    refine wpAnyIn_only (i := 18) rfl (by kernel_rfl) (fun K hK => ?_)
    go_simp
    refine ⟨fun _ h => (by cases h), ?_⟩
    refine hK _ _ ?_; clear hK K
    refine wpAnyIn_look (i := 19) (fu := 0) (v := undef) rfl (by kernel_rfl) (by kernel_rfl) (by kernel_rfl) (by kernel_rfl) (by kernel_rfl) (fun _ _ _ h => h) (Or.inr ⟨by kernel_rfl, rfl⟩) rfl ?_
    simp only [Act.put, nm]
    refine wpAnyIn_look (i := 20) (fu := 0) (v := ?_) rfl (by kernel_rfl) (by kernel_rfl) (by kernel_rfl) (by kernel_rfl) (by kernel_rfl) (fun _ _ _ h => h) (Or.inl ⟨by kernel_rfl, ?_⟩) rfl ?_
    rotate_left
    · first | (go_simp; done) | (go_simp; with_reducible rfl)
    simp only [Act.put, nm]
    refine wpAnyIn_look (i := 21) (fu := 0) (v := ?_) rfl (by kernel_rfl) (by kernel_rfl) (by kernel_rfl) (by kernel_rfl) (by kernel_rfl) (fun _ _ _ h => h) (Or.inl ⟨by kernel_rfl, ?_⟩) rfl ?_
    rotate_left
    · first | (go_simp; done) | (go_simp; with_reducible rfl)
    simp only [Act.put, nm]
    refine wpAnyIn_look (i := 27) (fu := 5) (v := undef) rfl (by kernel_rfl) (by kernel_rfl) (by kernel_rfl) (by kernel_rfl) (by kernel_rfl) (fun _ _ _ h => h) (Or.inr ⟨by kernel_rfl, rfl⟩) rfl ?_
    simp only [Act.put, nm]
    refine wpAnyIn_look (i := 22) (fu := 0) (v := undef) rfl (by kernel_rfl) (by kernel_rfl) (by kernel_rfl) (by kernel_rfl) (by kernel_rfl) (fun _ _ _ h => h) (Or.inr ⟨by kernel_rfl, rfl⟩) rfl ?_
    simp only [Act.put, nm]
    refine wpAnyIn_look (i := 23) (fu := 0) (v := undef) rfl (by kernel_rfl) (by kernel_rfl) (by kernel_rfl) (by kernel_rfl) (by kernel_rfl) (fun _ _ _ h => h) (Or.inr ⟨by kernel_rfl, rfl⟩) rfl ?_
    simp only [Act.put, nm]
    refine wpAnyIn_look (i := 24) (fu := 0) (v := undef) rfl (by kernel_rfl) (by kernel_rfl) (by kernel_rfl) (by kernel_rfl) (by kernel_rfl) (fun _ _ _ h => h) (Or.inr ⟨by kernel_rfl, rfl⟩) rfl ?_
    simp only [Act.put, nm]
    refine wpAnyIn_look (i := 25) (fu := 0) (v := undef) rfl (by kernel_rfl) (by kernel_rfl) (by kernel_rfl) (by kernel_rfl) (by kernel_rfl) (fun _ _ _ h => h) (Or.inr ⟨by kernel_rfl, rfl⟩) rfl ?_
    simp only [Act.put, nm]
    refine wpAnyIn_look (i := 26) (fu := 0) (v := undef) rfl (by kernel_rfl) (by kernel_rfl) (by kernel_rfl) (by kernel_rfl) (by kernel_rfl) (fun _ _ _ h => h) (Or.inr ⟨by kernel_rfl, rfl⟩) rfl ?_
    simp only [Act.put, nm]
    refine wpAnyIn_look (i := 28) (fu := 0) (v := undef) rfl (by kernel_rfl) (by kernel_rfl) (by kernel_rfl) (by kernel_rfl) (by kernel_rfl) (fun _ _ _ h => h) (Or.inr ⟨by kernel_rfl, rfl⟩) rfl ?_
    simp only [Act.put, nm]
    refine wpAnyIn_look (i := 29) (fu := 0) (v := undef) rfl (by kernel_rfl) (by kernel_rfl) (by kernel_rfl) (by kernel_rfl) (by kernel_rfl) (fun _ _ _ h => h) (Or.inr ⟨by kernel_rfl, rfl⟩) rfl ?_
    simp only [Act.put, nm]
    refine wpAnyIn_look (i := 30) (fu := 0) (v := undef) rfl (by kernel_rfl) (by kernel_rfl) (by kernel_rfl) (by kernel_rfl) (by kernel_rfl) (fun _ _ _ h => h) (Or.inr ⟨by kernel_rfl, rfl⟩) rfl ?_
    simp only [Act.put, nm]
    refine wpAnyIn_look (i := 31) (fu := 0) (v := undef) rfl (by kernel_rfl) (by kernel_rfl) (by kernel_rfl) (by kernel_rfl) (by kernel_rfl) (fun _ _ _ h => h) (Or.inr ⟨by kernel_rfl, rfl⟩) rfl ?_
    simp only [Act.put, nm]
    refine wpAnyIn_look (i := 32) (fu := 0) (v := ?_) rfl (by kernel_rfl) (by kernel_rfl) (by kernel_rfl) (by kernel_rfl) (by kernel_rfl) (fun _ _ _ h => h) (Or.inl ⟨by kernel_rfl, ?_⟩) rfl ?_
    rotate_left
    · first | (go_simp; done) | (go_simp; with_reducible rfl)
    simp only [Act.put, nm]
    refine wpAnyIn_done (by kernel_rfl) ?_ _
    gi_wp2_with fail
    refine bodyPost_ret (results_none rfl _ _ _) rfl ?_
    exact ⟨⟨_, rfl⟩, .inl ⟨[], Hs.out.symm, HJ1.out⟩⟩
  · obtain ⟨s0, s1⟩ := right_super hr hs
    obtain ⟨sn, hsn⟩ : ∃ sn : Nat, (nth g t).super = sn := ⟨(nth g t).super.toNat, (Int.toNat_of_nonneg s0).symm⟩
    have hpre := upsL_super (rs := rs) hs
    have Hs1 := Lib.hid hs
    rw [hsn] at d6 hpre
    rw [Int.toNat_natCast] at hpre
    obtain ⟨fn, tmps, assign, body, hy, hR⟩ := hY2.out [] sn W1 hpre HJ1.out HI1.out
    have Hsn := Lib.hid hsn
    have Hpre := Lib.hid hpre
    clear hs hsn s0 s1 hpre hl0 hl1
    refine wpAnyIn_look (i := 6) (fu := 0) (v := ?_) rfl (by kernel_rfl) (by kernel_rfl) (by kernel_rfl) (by kernel_rfl) (by kernel_rfl) (fun _ _ _ h => h) (Or.inl ⟨by kernel_rfl, ?_⟩) rfl ?_
    rotate_left
    · first | (go_simp; done) | (go_simp; with_reducible rfl)
    simp only [Act.put, nm]
    refine wpAnyIn_look (i := 7) (fu := 0) (v := ?_) rfl (by kernel_rfl) (by kernel_rfl) (by kernel_rfl) (by kernel_rfl) (by kernel_rfl) (fun _ _ _ h => h) (Or.inl ⟨by kernel_rfl, ?_⟩) rfl ?_
    rotate_left
    · first | (go_simp; done) | (go_simp; with_reducible rfl)
    simp only [Act.put, nm]
    refine wpAnyIn_look (i := 14) (fu := 5) (v := ?_) rfl (by kernel_rfl) (by kernel_rfl) (by kernel_rfl) (by kernel_rfl) (by kernel_rfl) (fun _ _ _ h => h) (Or.inl ⟨by kernel_rfl, ?_⟩) rfl ?_
    rotate_left
    · first | (go_simp; done) | (go_simp; with_reducible rfl)
    simp only [Act.put, nm]
    refine wpAnyIn_look (i := 9) (fu := 1) (v := ?_) rfl (by kernel_rfl) (by kernel_rfl) (by kernel_rfl) (by kernel_rfl) (by kernel_rfl) (fun _ _ _ h => h) (Or.inl ⟨by kernel_rfl, ?_⟩) rfl ?_
    rotate_left
    · first | (go_simp; done) | (go_simp; with_reducible rfl)
    simp only [Act.put, nm]
    refine wpAnyIn_look (i := 10) (fu := 1) (v := ?_) rfl (by kernel_rfl) (by kernel_rfl) (by kernel_rfl) (by kernel_rfl) (by kernel_rfl) (fun _ _ _ h => h) (Or.inl ⟨by kernel_rfl, ?_⟩) rfl ?_
    rotate_left
    · first | (go_simp; done) | (go_simp; with_reducible rfl)
    simp only [Act.put, nm]
    refine wpAnyIn_look (i := 11) (fu := 1) (v := ?_) rfl (by kernel_rfl) (by kernel_rfl) (by kernel_rfl) (by kernel_rfl) (by kernel_rfl) (fun _ _ _ h => h) (Or.inl ⟨by kernel_rfl, ?_⟩) rfl ?_
    rotate_left
    · first | (go_simp; done) | (go_simp; with_reducible rfl)
    simp only [Act.put, nm]
    refine wpAnyIn_look (i := 12) (fu := 1) (v := ?_) rfl (by kernel_rfl) (by kernel_rfl) (by kernel_rfl) (by kernel_rfl) (by kernel_rfl) (fun _ _ _ h => h) (Or.inl ⟨by kernel_rfl, ?_⟩) rfl ?_
    rotate_left
    · first | (go_simp; done) | (go_simp; with_reducible rfl)
    simp only [Act.put, nm]
    refine wpAnyIn_look (i := 13) (fu := 1) (v := ?_) rfl (by kernel_rfl) (by kernel_rfl) (by kernel_rfl) (by kernel_rfl) (by kernel_rfl) (fun _ _ _ h => h) (Or.inl ⟨by kernel_rfl, ?_⟩) rfl ?_
    rotate_left
    · first | (go_simp; done) | (go_simp; with_reducible rfl)
    simp only [Act.put, nm]
    refine wpAnyIn_look (i := 15) (fu := 1) (v := ?_) rfl (by kernel_rfl) (by kernel_rfl) (by kernel_rfl) (by kernel_rfl) (by kernel_rfl) (fun _ _ _ h => h) (Or.inl ⟨by kernel_rfl, ?_⟩) rfl ?_
    rotate_left
    · first | (go_simp; done) | (go_simp; with_reducible rfl)
    simp only [Act.put, nm]
    refine wpAnyIn_look (i := 16) (fu := 1) (v := ?_) rfl (by kernel_rfl) (by kernel_rfl) (by kernel_rfl) (by kernel_rfl) (by kernel_rfl) (fun _ _ _ h => h) (Or.inl ⟨by kernel_rfl, ?_⟩) rfl ?_
    rotate_left
    · first | (go_simp; done) | (go_simp; with_reducible rfl)
    simp only [Act.put, nm]
    refine wpAnyIn_look (i := 17) (fu := 1) (v := ?_) rfl (by kernel_rfl) (by kernel_rfl) (by kernel_rfl) (by kernel_rfl) (by kernel_rfl) (fun _ _ _ h => h) (Or.inl ⟨by kernel_rfl, ?_⟩) rfl ?_
    rotate_left
    · first | (go_simp; done) | (go_simp; with_reducible rfl)
    simp only [Act.put, nm]
    refine wpAnyIn_look (i := 8) (fu := 0) (v := ?_) rfl (by kernel_rfl) (by kernel_rfl) (by kernel_rfl) (by kernel_rfl) (by kernel_rfl) (fun _ _ _ h => h) (Or.inl ⟨by kernel_rfl, ?_⟩) rfl ?_
    rotate_left
    · first | (go_simp; done) | (go_simp; with_reducible rfl)
    simp only [Act.put, nm]
    refine wpAnyIn_only (i := 18) rfl (by kernel_rfl) (fun K hK => ?_)
    go_simp
    refine ⟨fun h => (by cases h), hR.mono ?_⟩
    rintro e W3 (⟨rfl, hH⟩ | ⟨rfl, hJx⟩)
    · have HJ3 := Lib.hid hH.out.1
      have HI3 := Lib.hid hH.out.2
      have hd := HID.out _ HI3.out
      have c0 := hd.1.cell Hv.out.c0
      have c3 := hd.1.cell Hby.out.c3
      have x1 := hd.2.1
      have x2 := hd.2.2
      obtain ⟨b, off, pa, pl, pc, ma, ml, mc, oa, ol, oc, hgo, hlt3, hT⟩ := Graph.at (Graph.mono hd.1 Hv.out.gr) ht
      cases hgo
      have d0 := hT.c0
      have d5 := hT.c5
      clear hd hT hH HJ1 HI1 hR hy d6
      refine hK _ _ ?_; clear hK K
      refine wpAnyIn_look (i := 19) (fu := 0) (v := ?_) rfl (by kernel_rfl) (by kernel_rfl) (by kernel_rfl) (by kernel_rfl) (by kernel_rfl) (fun _ _ _ h => h) (Or.inl ⟨by kernel_rfl, ?_⟩) rfl ?_
      rotate_left
      · first | (go_simp; done) | (go_simp; with_reducible rfl)
      simp only [Act.put, nm]
      refine wpAnyIn_look (i := 20) (fu := 0) (v := ?_) rfl (by kernel_rfl) (by kernel_rfl) (by kernel_rfl) (by kernel_rfl) (by kernel_rfl) (fun _ _ _ h => h) (Or.inl ⟨by kernel_rfl, ?_⟩) rfl ?_
      rotate_left
      · first | (go_simp; done) | (go_simp; with_reducible rfl)
      simp only [Act.put, nm]
      refine wpAnyIn_look (i := 21) (fu := 0) (v := ?_) rfl (by kernel_rfl) (by kernel_rfl) (by kernel_rfl) (by kernel_rfl) (by kernel_rfl) (fun _ _ _ h => h) (Or.inl ⟨by kernel_rfl, ?_⟩) rfl ?_
      rotate_left
      · first | (go_simp; done) | (go_simp; with_reducible rfl)
      simp only [Act.put, nm]
      refine wpAnyIn_look (i := 27) (fu := 5) (v := ?_) rfl (by kernel_rfl) (by kernel_rfl) (by kernel_rfl) (by kernel_rfl) (by kernel_rfl) (fun _ _ _ h => h) (Or.inl ⟨by kernel_rfl, ?_⟩) rfl ?_
      rotate_left
      · first | (go_simp; done) | (go_simp; with_reducible rfl)
      simp only [Act.put, nm]
      refine wpAnyIn_look (i := 22) (fu := 0) (v := ?_) rfl (by kernel_rfl) (by kernel_rfl) (by kernel_rfl) (by kernel_rfl) (by kernel_rfl) (fun _ _ _ h => h) (Or.inl ⟨by kernel_rfl, ?_⟩) rfl ?_
      rotate_left
      · first | (go_simp; done) | (go_simp; with_reducible rfl)
      simp only [Act.put, nm]
      refine wpAnyIn_look (i := 23) (fu := 0) (v := ?_) rfl (by kernel_rfl) (by kernel_rfl) (by kernel_rfl) (by kernel_rfl) (by kernel_rfl) (fun _ _ _ h => h) (Or.inl ⟨by kernel_rfl, ?_⟩) rfl ?_
      rotate_left
      · first | (go_simp; done) | (go_simp; with_reducible rfl)
      simp only [Act.put, nm]
      refine wpAnyIn_look (i := 24) (fu := 0) (v := ?_) rfl (by kernel_rfl) (by kernel_rfl) (by kernel_rfl) (by kernel_rfl) (by kernel_rfl) (fun _ _ _ h => h) (Or.inl ⟨by kernel_rfl, ?_⟩) rfl ?_
      rotate_left
      · first | (go_simp; done) | (go_simp; with_reducible rfl)
      simp only [Act.put, nm]
      refine wpAnyIn_look (i := 25) (fu := 0) (v := ?_) rfl (by kernel_rfl) (by kernel_rfl) (by kernel_rfl) (by kernel_rfl) (by kernel_rfl) (fun _ _ _ h => h) (Or.inl ⟨by kernel_rfl, ?_⟩) rfl ?_
      rotate_left
      · first | (go_simp; done) | (go_simp; with_reducible rfl)
      simp only [Act.put, nm]
      refine wpAnyIn_look (i := 26) (fu := 0) (v := ?_) rfl (by kernel_rfl) (by kernel_rfl) (by kernel_rfl) (by kernel_rfl) (by kernel_rfl) (fun _ _ _ h => h) (Or.inl ⟨by kernel_rfl, ?_⟩) rfl ?_
      rotate_left
      · first | (go_simp; done) | (go_simp; with_reducible rfl)
      simp only [Act.put, nm]
      refine wpAnyIn_look (i := 28) (fu := 0) (v := ?_) rfl (by kernel_rfl) (by kernel_rfl) (by kernel_rfl) (by kernel_rfl) (by kernel_rfl) (fun _ _ _ h => h) (Or.inl ⟨by kernel_rfl, ?_⟩) rfl ?_
      rotate_left
      · first | (go_simp; done) | (go_simp; with_reducible rfl)
      simp only [Act.put, nm]
      refine wpAnyIn_look (i := 29) (fu := 0) (v := ?_) rfl (by kernel_rfl) (by kernel_rfl) (by kernel_rfl) (by kernel_rfl) (by kernel_rfl) (fun _ _ _ h => h) (Or.inl ⟨by kernel_rfl, ?_⟩) rfl ?_
      rotate_left
      · first | (go_simp; done) | (go_simp; with_reducible rfl)
      simp only [Act.put, nm]
      refine wpAnyIn_look (i := 30) (fu := 0) (v := ?_) rfl (by kernel_rfl) (by kernel_rfl) (by kernel_rfl) (by kernel_rfl) (by kernel_rfl) (fun _ _ _ h => h) (Or.inl ⟨by kernel_rfl, ?_⟩) rfl ?_
      rotate_left
      · first | (go_simp; done) | (go_simp; with_reducible rfl)
      simp only [Act.put, nm]
      by_cases h13 : (nth g t).kind = 13
      · have h13b : ((nth g t).kind != 13) = false := by rw [h13]; rfl
        have Hall := Lib.hid (upsTo_all (rs := rs) Hs1.out h13)
        have Hpr := Lib.hid (fun k => upsTo_prefix (rs := rs) (k := k) Hs1.out h13)
        clear h13
        refine wpAnyIn_look (i := 31) (fu := 0) (v := ?_) rfl (by kernel_rfl) (by kernel_rfl) (by kernel_rfl) (by kernel_rfl) (by kernel_rfl) (fun _ _ _ h => h) (Or.inl ⟨by kernel_rfl, ?_⟩) rfl ?_
        rotate_left
        · first | (go_simp; done) | (go_simp; with_reducible rfl)
        simp only [Act.put, nm]
        refine wpAnyIn_look (i := 32) (fu := 0) (v := ?_) rfl (by kernel_rfl) (by kernel_rfl) (by kernel_rfl) (by kernel_rfl) (by kernel_rfl) (fun _ _ _ h => h) (Or.inl ⟨by kernel_rfl, ?_⟩) rfl ?_
        rotate_left
        · first | (go_simp; done) | (go_simp; with_reducible rfl)
        simp only [Act.put, nm]
        refine wpAnyIn_done (by kernel_rfl) ?_ _
        gi_upto_region 1 with (fail)
        have hrow := Hby.out.row (nth g t).opq
        have hlook := (Hby.out.at_.ext ((HID.out _ HI3.out).1.trans (Ext.drew _))).lookup Tryz.underlying100 keyString (nth g t).opq zero35
        obtain ⟨va, vc, hva, -⟩ := id hrow
        rw [hva] at hlook hrow
        have hbl := (SlW.bound hrow).2
        have hln : (numsOf (byN rs rs.length (nth g t).opq)).length = (byN rs rs.length (nth g t).opq).length := by simp [numsOf]
        rw [hln] at hlook hrow hbl
        obtain ⟨L, hL⟩ : ∃ L, L = byN rs rs.length (nth g t).opq := ⟨_, rfl⟩
        rw [← hL] at hlook hrow hbl
        have HL := Lib.hid hL
        have Hrow := Lib.hid hrow
        have hl60 : L.length ≤ 60 := by have := byN_len rs rs.length (nth g t).opq; rw [← hL] at this; omega
        clear hva hrow hln hL
        refine wpIn_region_any (by kernel_rfl) ?_
        change wpAnyIn _ _ _ _ _ _ _ _ _ (World.drew _)
        refine wpAnyIn_look (i := 9) (fu := 5) (v := ?_) rfl (by kernel_rfl) (by kernel_rfl) (by kernel_rfl) (by kernel_rfl) (by kernel_rfl) (fun _ _ _ h => h) (Or.inl ⟨by kernel_rfl, ?_⟩) rfl ?_
        rotate_left
        · first | (go_simp; done) | (go_simp; with_reducible rfl)
        simp only [Act.put, nm]
        refine wpAnyIn_look (i := 4) (fu := 4) (v := ?_) rfl (by kernel_rfl) (by kernel_rfl) (by kernel_rfl) (by kernel_rfl) (by kernel_rfl) (fun _ _ _ h => h) (Or.inl ⟨by kernel_rfl, ?_⟩) rfl ?_
        rotate_left
        · first | (go_simp; done) | (go_simp; with_reducible rfl)
        simp only [Act.put, nm]
        refine wpAnyIn_look (i := 5) (fu := 4) (v := ?_) rfl (by kernel_rfl) (by kernel_rfl) (by kernel_rfl) (by kernel_rfl) (by kernel_rfl) (fun _ _ _ h => h) (Or.inl ⟨by kernel_rfl, ?_⟩) rfl ?_
        rotate_left
        · first | (go_simp; done) | (go_simp; with_reducible rfl)
        simp only [Act.put, nm]
        refine wpAnyIn_look (i := 6) (fu := 4) (v := ?_) rfl (by kernel_rfl) (by kernel_rfl) (by kernel_rfl) (by kernel_rfl) (by kernel_rfl) (fun _ _ _ h => h) (Or.inl ⟨by kernel_rfl, ?_⟩) rfl ?_
        rotate_left
        · first | (go_simp; done) | (go_simp; with_reducible rfl)
        simp only [Act.put, nm]
        refine wpAnyIn_look (i := 7) (fu := 4) (v := ?_) rfl (by kernel_rfl) (by kernel_rfl) (by kernel_rfl) (by kernel_rfl) (by kernel_rfl) (fun _ _ _ h => h) (Or.inl ⟨by kernel_rfl, ?_⟩) rfl ?_
        rotate_left
        · first | (go_simp; done) | (go_simp; with_reducible rfl)
        simp only [Act.put, nm]
        refine wpAnyIn_look (i := 8) (fu := 4) (v := ?_) rfl (by kernel_rfl) (by kernel_rfl) (by kernel_rfl) (by kernel_rfl) (by kernel_rfl) (fun _ _ _ h => h) (Or.inl ⟨by kernel_rfl, ?_⟩) rfl ?_
        rotate_left
        · first | (go_simp; done) | (go_simp; with_reducible rfl)
        simp only [Act.put, nm]
        refine wpAnyIn_look (i := 10) (fu := 4) (v := ?_) rfl (by kernel_rfl) (by kernel_rfl) (by kernel_rfl) (by kernel_rfl) (by kernel_rfl) (fun _ _ _ h => h) (Or.inl ⟨by kernel_rfl, ?_⟩) rfl ?_
        rotate_left
        · first | (go_simp; done) | (go_simp; with_reducible rfl)
        simp only [Act.put, nm]
        refine wpAnyIn_look (i := 11) (fu := 4) (v := ?_) rfl (by kernel_rfl) (by kernel_rfl) (by kernel_rfl) (by kernel_rfl) (by kernel_rfl) (fun _ _ _ h => h) (Or.inl ⟨by kernel_rfl, ?_⟩) rfl ?_
        rotate_left
        · first | (go_simp; done) | (go_simp; with_reducible rfl)
        simp only [Act.put, nm]
        refine wpAnyIn_look (i := 12) (fu := 4) (v := ?_) rfl (by kernel_rfl) (by kernel_rfl) (by kernel_rfl) (by kernel_rfl) (by kernel_rfl) (fun _ _ _ h => h) (Or.inl ⟨by kernel_rfl, ?_⟩) rfl ?_
        rotate_left
        · first | (go_simp; done) | (go_simp; with_reducible rfl)
        simp only [Act.put, nm]
        refine wpAnyIn_look (i := 0) (fu := 1) (v := ?_) rfl (by kernel_rfl) (by kernel_rfl) (by kernel_rfl) (by kernel_rfl) (by kernel_rfl) (fun _ _ _ h => h) (Or.inl ⟨by kernel_rfl, ?_⟩) rfl ?_
        rotate_left
        · first | (go_simp; done) | (go_simp; with_reducible rfl)
        simp only [Act.put, nm]
        refine wpAnyIn_look (i := 1) (fu := 1) (v := ?_) rfl (by kernel_rfl) (by kernel_rfl) (by kernel_rfl) (by kernel_rfl) (by kernel_rfl) (fun _ _ _ h => h) (Or.inl ⟨by kernel_rfl, ?_⟩) rfl ?_
        rotate_left
        · first | (go_simp; done) | (go_simp; with_reducible rfl)
        simp only [Act.put, nm]
        refine wpAnyIn_look (i := 2) (fu := 1) (v := ?_) rfl (by kernel_rfl) (by kernel_rfl) (by kernel_rfl) (by kernel_rfl) (by kernel_rfl) (fun _ _ _ h => h) (Or.inl ⟨by kernel_rfl, ?_⟩) rfl ?_
        rotate_left
        · first | (go_simp; done) | (go_simp; with_reducible rfl)
        simp only [Act.put, nm]
        refine wpAnyIn_look (i := 3) (fu := 1) (v := ?_) rfl (by kernel_rfl) (by kernel_rfl) (by kernel_rfl) (by kernel_rfl) (by kernel_rfl) (fun _ _ _ h => h) (Or.inl ⟨by kernel_rfl, ?_⟩) rfl ?_
        rotate_left
        · first | (go_simp; done) | (go_simp; with_reducible rfl)
        simp only [Act.put, nm]
        refine wpAnyIn_look (i := 13) (fu := 1) (v := ?_) rfl (by kernel_rfl) (by kernel_rfl) (by kernel_rfl) (by kernel_rfl) (by kernel_rfl) (fun _ _ _ h => h) (Or.inl ⟨by kernel_rfl, ?_⟩) rfl ?_
        rotate_left
        · first | (go_simp; done) | (go_simp; with_reducible rfl)
        simp only [Act.put, nm]
        refine wpAnyIn_look (i := 14) (fu := 1) (v := ?_) rfl (by kernel_rfl) (by kernel_rfl) (by kernel_rfl) (by kernel_rfl) (by kernel_rfl) (fun _ _ _ h => h) (Or.inl ⟨by kernel_rfl, ?_⟩) rfl ?_
        rotate_left
        · first | (go_simp; done) | (go_simp; with_reducible rfl)
        simp only [Act.put, nm]
        refine wpAnyIn_look (i := 15) (fu := 0) (v := ?_) rfl (by kernel_rfl) (by kernel_rfl) (by kernel_rfl) (by kernel_rfl) (by kernel_rfl) (fun _ _ _ h => h) (Or.inl ⟨by kernel_rfl, ?_⟩) rfl ?_
        rotate_left
        · first | (go_simp; done) | (go_simp; with_reducible rfl)
        simp only [Act.put, nm]
        refine wpAnyIn_done (by kernel_rfl) ?_ _
        have HJ4 := Lib.hid (hJa.out _ _ _ HJ3.out (Ext.drew _))
        have HI4 := Lib.hid (HIE.out _ _ HI3.out (Ext.drew _))
        clear hlook d0 d5 c0 c3 x1 x2 HJ3 HI3
        gi_upto_region 2 with (fail)
        gi_loopw [5, 54] (fun _ i wr => ∃ k : Nat, k ≤ L.length ∧ i = .int .i64 k ∧ Hid (J (upsTo g rs t k) wr ∧ Inv wr)) (fun _ i _ => L.length - (intOf i).toNat)
        case atStart => exact ⟨0, Nat.zero_le _, rfl, by unfold upsTo; rw [Hsn.out]; simpa using HJ4.out, HI4.out⟩
        case round =>
          clear HJ4 HI4
          obtain ⟨k, hk, rfl, hH⟩ := hrel
          have HJ5 := Lib.hid hH.out.1
          have HI5 := Lib.hid hH.out.2
          clear hH
          by_cases hlt : k < L.length
          · have hd := HID.out _ HI5.out
            have x1 := hd.2.1
            have c2 := hd.1.cell Hv.out.c2
            obtain ⟨rb, roff, rfl, e0⟩ := numsOf_at (Ints.mono hd.1 Hrow.out) hlt
            have hil : nth L k < rs.length := byN_lt (k := rs.length) (name := (nth g t).opq) (by rw [← HL.out]; exact nth_mem hlt)
            obtain ⟨q, hq⟩ : ∃ q, q = nth L k := ⟨_, rfl⟩
            rw [← hq] at e0 hil
            obtain ⟨b9, off9, hro, hrl, r0, r1, r2, _⟩ := Reveals.at (Reveals.mono hd.1 Hv.out.re) hil
            cases hro
            obtain ⟨ty, hty⟩ : ∃ ty : Nat, (nth rs q).type = ty := ⟨(nth rs q).type.toNat, (Int.toNat_of_nonneg (Hrt.out q hil).1).symm⟩
            rw [hty] at r2
            have Hup := Lib.hid (show upsTo g rs t (k + 1) = upsTo g rs t k ++ [ty] by rw [upsTo_succ (by rw [← HL.out]; exact hlt), ← HL.out, ← hq, hty, Int.toNat_natCast])
            obtain ⟨fn, tmps, assign, body, hy, hR⟩ := hY2.out (upsTo g rs t k) ty wr (by rw [← Hup.out]; exact Hpr.out _) HJ5.out HI5.out
            have Hq := Lib.hid hq
            clear hd hq hty r0 r1
            gi_wp2_with fail
            refine ⟨fun h => (by cases h), hR.mono ?_⟩
            rintro e W5 (⟨rfl, hH⟩ | ⟨rfl, hJx⟩)
            · gi_wp2_with fail
              go_roundw
              case rel => exact ⟨k + 1, by omega, by go_num, by rw [Hup.out]; exact hH.out.1, hH.out.2⟩
              case measure => simp [intOf]; omega
            · gi_wp2_with fail
              refine bodyPost_ret (results_none rfl _ _ _) rfl ?_
              exact ⟨⟨_, rfl⟩, .inr ⟨_, by rw [← Hup.out]; exact Hpr.out _, hJx.out⟩⟩
          · have : k = L.length := by omega
            subst this
            gi_wp2_with fail
            go_end0
            exact ⟨⟨_, rfl⟩, .inl ⟨_, by rw [HL.out]; exact Hall.out, HJ5.out⟩⟩
      · have h13b : ((nth g t).kind != 13) = true := by simp only [bne_iff_ne, ne_eq]; exact h13
        have Hsh := Lib.hid (upsL_short (rs := rs) Hs1.out h13)
        clear h13
        refine wpAnyIn_look (i := 31) (fu := 0) (v := ?_) rfl (by kernel_rfl) (by kernel_rfl) (by kernel_rfl) (by kernel_rfl) (by kernel_rfl) (fun _ _ _ h => h) (Or.inl ⟨by kernel_rfl, ?_⟩) rfl ?_
        rotate_left
        · first | (go_simp; done) | (go_simp; with_reducible rfl)
        simp only [Act.put, nm]
        refine wpAnyIn_look (i := 32) (fu := 0) (v := ?_) rfl (by kernel_rfl) (by kernel_rfl) (by kernel_rfl) (by kernel_rfl) (by kernel_rfl) (fun _ _ _ h => h) (Or.inl ⟨by kernel_rfl, ?_⟩) rfl ?_
        rotate_left
        · first | (go_simp; done) | (go_simp; with_reducible rfl)
        simp only [Act.put, nm]
        refine wpAnyIn_done (by kernel_rfl) ?_ _
        gi_wp2_with fail
        refine bodyPost_ret (results_none rfl _ _ _) rfl ?_
        exact ⟨⟨_, rfl⟩, .inl ⟨[sn], by rw [Hsh.out, Hsn.out, Int.toNat_natCast], HJ3.out⟩⟩
    · refine hK _ _ ?_; clear hK K
      refine wpAnyIn_look (i := 19) (fu := 0) (v := ?_) rfl (by kernel_rfl) (by kernel_rfl) (by kernel_rfl) (by kernel_rfl) (by kernel_rfl) (fun _ _ _ h => h) (Or.inl ⟨by kernel_rfl, ?_⟩) rfl ?_
      rotate_left
      · first | (go_simp; done) | (go_simp; with_reducible rfl)
      simp only [Act.put, nm]
      refine wpAnyIn_look (i := 20) (fu := 0) (v := ?_) rfl (by kernel_rfl) (by kernel_rfl) (by kernel_rfl) (by kernel_rfl) (by kernel_rfl) (fun _ _ _ h => h) (Or.inl ⟨by kernel_rfl, ?_⟩) rfl ?_
      rotate_left
      · first | (go_simp; done) | (go_simp; with_reducible rfl)
      simp only [Act.put, nm]
      refine wpAnyIn_look (i := 21) (fu := 0) (v := ?_) rfl (by kernel_rfl) (by kernel_rfl) (by kernel_rfl) (by kernel_rfl) (by kernel_rfl) (fun _ _ _ h => h) (Or.inl ⟨by kernel_rfl, ?_⟩) rfl ?_
      rotate_left
      · first | (go_simp; done) | (go_simp; with_reducible rfl)
      simp only [Act.put, nm]
      refine wpAnyIn_look (i := 27) (fu := 5) (v := undef) rfl (by kernel_rfl) (by kernel_rfl) (by kernel_rfl) (by kernel_rfl) (by kernel_rfl) (fun _ _ _ h => h) (Or.inr ⟨by kernel_rfl, rfl⟩) rfl ?_
      simp only [Act.put, nm]
      refine wpAnyIn_look (i := 22) (fu := 0) (v := undef) rfl (by kernel_rfl) (by kernel_rfl) (by kernel_rfl) (by kernel_rfl) (by kernel_rfl) (fun _ _ _ h => h) (Or.inr ⟨by kernel_rfl, rfl⟩) rfl ?_
      simp only [Act.put, nm]
      refine wpAnyIn_look (i := 23) (fu := 0) (v := undef) rfl (by kernel_rfl) (by kernel_rfl) (by kernel_rfl) (by kernel_rfl) (by kernel_rfl) (fun _ _ _ h => h) (Or.inr ⟨by kernel_rfl, rfl⟩) rfl ?_
      simp only [Act.put, nm]
      refine wpAnyIn_look (i := 24) (fu := 0) (v := undef) rfl (by kernel_rfl) (by kernel_rfl) (by kernel_rfl) (by kernel_rfl) (by kernel_rfl) (fun _ _ _ h => h) (Or.inr ⟨by kernel_rfl, rfl⟩) rfl ?_
      simp only [Act.put, nm]
      refine wpAnyIn_look (i := 25) (fu := 0) (v := undef) rfl (by kernel_rfl) (by kernel_rfl) (by kernel_rfl) (by kernel_rfl) (by kernel_rfl) (fun _ _ _ h => h) (Or.inr ⟨by kernel_rfl, rfl⟩) rfl ?_
      simp only [Act.put, nm]
      refine wpAnyIn_look (i := 26) (fu := 0) (v := undef) rfl (by kernel_rfl) (by kernel_rfl) (by kernel_rfl) (by kernel_rfl) (by kernel_rfl) (fun _ _ _ h => h) (Or.inr ⟨by kernel_rfl, rfl⟩) rfl ?_
      simp only [Act.put, nm]
      refine wpAnyIn_look (i := 28) (fu := 0) (v := undef) rfl (by kernel_rfl) (by kernel_rfl) (by kernel_rfl) (by kernel_rfl) (by kernel_rfl) (fun _ _ _ h => h) (Or.inr ⟨by kernel_rfl, rfl⟩) rfl ?_
      simp only [Act.put, nm]
      refine wpAnyIn_look (i := 29) (fu := 0) (v := undef) rfl (by kernel_rfl) (by kernel_rfl) (by kernel_rfl) (by kernel_rfl) (by kernel_rfl) (fun _ _ _ h => h) (Or.inr ⟨by kernel_rfl, rfl⟩) rfl ?_
      simp only [Act.put, nm]
      refine wpAnyIn_look (i := 30) (fu := 0) (v := undef) rfl (by kernel_rfl) (by kernel_rfl) (by kernel_rfl) (by kernel_rfl) (by kernel_rfl) (fun _ _ _ h => h) (Or.inr ⟨by kernel_rfl, rfl⟩) rfl ?_
      simp only [Act.put, nm]
      refine wpAnyIn_look (i := 31) (fu := 0) (v := undef) rfl (by kernel_rfl) (by kernel_rfl) (by kernel_rfl) (by kernel_rfl) (by kernel_rfl) (fun _ _ _ h => h) (Or.inr ⟨by kernel_rfl, rfl⟩) rfl ?_
      simp only [Act.put, nm]
      refine wpAnyIn_look (i := 32) (fu := 0) (v := ?_) rfl (by kernel_rfl) (by kernel_rfl) (by kernel_rfl) (by kernel_rfl) (by kernel_rfl) (fun _ _ _ h => h) (Or.inl ⟨by kernel_rfl, ?_⟩) rfl ?_
      rotate_left
      · first | (go_simp; done) | (go_simp; with_reducible rfl)
      simp only [Act.put, nm]
      refine wpAnyIn_done (by kernel_rfl) ?_ _
      gi_wp2_with fail
      refine bodyPost_ret (results_none rfl _ _ _) rfl ?_
      exact ⟨⟨_, rfl⟩, .inr ⟨_, Hpre.out, hJx.out⟩⟩
end Go.Proofs.YtjffkeoajkhbmaaGreat
