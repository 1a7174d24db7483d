/- types.agree. The references of a type as a list; the class of a reference. Rows of numbers of one's own; what types.classes reckons. -/
import Derived.Test.YtjffkeoajkhbmaaGreatM6
import Derived.Test.YtjffkeoajkhbmaaGreatM7
namespace Go.Proofs.YtjffkeoajkhbmaaGreat
open Go.RowKit Go.Proofs
set_option linter.unusedSimpArgs false
theorem ext_of_drew {W Y : World} (h : Ext W Y) : Ext W.drew Y := ⟨h.os, h.tape, h.output, h.size, h.block⟩
def plainEq (x y : Ty) : Bool := x.kind == y.kind && x.low == y.low && x.high == y.high && x.branded == y.branded && x.brand == y.brand && x.opq == y.opq
def agreeB (x y : Ty) : Bool := plainEq x y && sameB partEq x.parts y.parts && sameB methEq x.methods y.methods && sameB overEq x.overs y.overs
def tyArr (t : Ty) (pa : Option Addr) (pl pc : Nat) (ma : Option Addr) (ml mc : Nat) (oa : Option Addr) (ol oc : Nat) : Array Value :=
  #[.int .u8 t.kind, .int .i64 t.low, .int .i64 t.high, .bool t.branded, .string t.brand, .string t.opq, .int .i64 t.super, .slice pa pl pc, .slice ma ml mc, .slice oa ol oc]
theorem heap_alloc2 (w : World) (A B : Obj) : ((w.alloc A).alloc B).heap[w.heap.size + 1]? = some B := by
  have := heap_alloc_new (w.alloc A) B
  rwa [World.size_alloc] at this
theorem plain_res (x y : Ty) (w : World) :
    (if x.kind = y.kind then
      if x.low = y.low then
        if x.high = y.high then
          if x.branded = y.branded then
            if ByteArray.toList x.brand = ByteArray.toList y.brand then
              if ByteArray.toList x.opq = ByteArray.toList y.opq then Result.ok (Next.value (Value.bool true)) w else Result.ok (Next.value (Value.bool false)) w
            else Result.ok (Next.value (Value.bool false)) w
          else Result.ok (Next.value (Value.bool false)) w
        else Result.ok (Next.value (Value.bool false)) w
      else Result.ok (Next.value (Value.bool false)) w
    else Result.ok (Next.value (Value.bool false)) w) = Result.ok (Next.value (Value.bool (plainEq x y))) w := by
  have he : plainEq x y = (x.kind == y.kind && x.low == y.low && x.high == y.high && x.branded == y.branded && decide (x.brand.toList = y.brand.toList) && decide (x.opq.toList = y.opq.toList)) := by
    unfold plainEq; rw [ba_eq_list, ba_eq_list]
  repeat' split
  all_goals rw [he]; simp [*]
structure TyBox (w : World) (b : Nat) (t : Ty) (pa : Option Addr) (pl pc : Nat) (ma : Option Addr) (ml mc : Nat) (oa : Option Addr) (ol oc : Nat) : Prop where
  c0 : w.cell? ⟨b, 0, none⟩ = some (.int .u8 t.kind)
  c1 : w.cell? ⟨b, 1, none⟩ = some (.int .i64 t.low)
  c2 : w.cell? ⟨b, 2, none⟩ = some (.int .i64 t.high)
  c3 : w.cell? ⟨b, 3, none⟩ = some (.bool t.branded)
  c4 : w.cell? ⟨b, 4, none⟩ = some (.string t.brand)
  c5 : w.cell? ⟨b, 5, none⟩ = some (.string t.opq)
  c6 : w.cell? ⟨b, 6, none⟩ = some (.int .i64 t.super)
  c7 : w.cell? ⟨b, 7, none⟩ = some (.slice pa pl pc)
  c8 : w.cell? ⟨b, 8, none⟩ = some (.slice ma ml mc)
  c9 : w.cell? ⟨b, 9, none⟩ = some (.slice oa ol oc)
theorem tyBox_of {w : World} {b : Nat} {t : Ty} {pa : Option Addr} {pl pc : Nat} {ma : Option Addr} {ml mc : Nat} {oa : Option Addr} {ol oc : Nat} (h : w.heap[b]? = some (Obj.cells (tyArr t pa pl pc ma ml mc oa ol oc) 50 (0, 0))) : TyBox w b t pa pl pc ma ml mc oa ol oc :=
  ⟨cell_of_heap h rfl, cell_of_heap h rfl, cell_of_heap h rfl, cell_of_heap h rfl, cell_of_heap h rfl, cell_of_heap h rfl, cell_of_heap h rfl, cell_of_heap h rfl, cell_of_heap h rfl, cell_of_heap h rfl⟩
theorem wpE_of {P : Program} {ops : Array Oper} {Q : Exit → Act → World → Prop} {md : Region.Mode} {fin fuel : Nat} {listed : Array Bool} {a : Act} {w0 w : World} (hE : Ext w0 w) (h : wpE P md ops fin Q fuel listed a w) :
    wpX P md ops fin Q (Ext w0) fuel listed a w := wpX_mono (fun _ hu => hE.trans hu) _ _ _ _ h.2
set_option maxHeartbeats 400000 in
set_option maxRecDepth 100000 in
theorem agree101 (a : Option Addr) (n c : Nat) (g : List Ty) (i j : Nat) (w : World) (hg : Graph w (.slice a n c) g) (hi : i < n) (hj : j < n) :
    Calls Tryz.prog 101 #[.agg #[.slice a n c], .int .i64 i, .int .i64 j] w fun e w' => e = .returned (.bool (agreeB (nth g i) (nth g j))) ∧ Ext w w' := by
  have hb := (SlW.bound hg).2
  obtain rfl := SlW.len hg
  obtain ⟨xb, xo, pa, pl, pc, ma, ml, mc, oa, ol, oc, hxo, hxl, hx⟩ := Graph.at hg hi
  obtain ⟨yb, yo, pa', pl', pc', ma', ml', mc', oa', ol', oc', hyo, hyl, hy⟩ := Graph.at hg hj
  have hoo : some (⟨xb, xo, none⟩ : Addr) = some ⟨yb, yo, none⟩ := hxo.symm.trans hyo
  cases hoo
  subst hxo
  clear hyo
  go_enter Tryz.func101, Tryz.ntmps101
  go_upto_region 1 with (fail)
  have hE0 := Ext.alloc w (.cells #[.slice (some ⟨xb, xo, none⟩) g.length c] 118)
  obtain ⟨W, hW⟩ : ∃ W : World, W = w.alloc (.cells #[.slice (some ⟨xb, xo, none⟩) g.length c] 118) := ⟨_, rfl⟩
  rw [← hW] at hE0 ⊢
  have hbx : W.cell? ⟨w.heap.size, 0, none⟩ = some (.slice (some ⟨xb, xo, none⟩) g.length c) := by rw [hW]; exact cell_new1 _ _ _
  clear hW
  have c0 := hE0.cell hx.c0
  have c1 := hE0.cell hx.c1
  have c2 := hE0.cell hx.c2
  have c3 := hE0.cell hx.c3
  have c4 := hE0.cell hx.c4
  have c5 := hE0.cell hx.c5
  have c6 := hE0.cell hx.c6
  have c7 := hE0.cell hx.c7
  have c8 := hE0.cell hx.c8
  have c9 := hE0.cell hx.c9
  have d0 := hE0.cell hy.c0
  have d1 := hE0.cell hy.c1
  have d2 := hE0.cell hy.c2
  have d3 := hE0.cell hy.c3
  have d4 := hE0.cell hy.c4
  have d5 := hE0.cell hy.c5
  have d6 := hE0.cell hy.c6
  have d7 := hE0.cell hy.c7
  have d8 := hE0.cell hy.c8
  have d9 := hE0.cell hy.c9
  have Hx := Lib.hid hx; clear hx
  have Hy := Lib.hid hy; clear hy
  go_cut [7, 8] (fun v7 v8 wx => ∃ b7 b8, v7 = .pointer (some ⟨b7, 0, none⟩) ∧ v8 = .pointer (some ⟨b8, 0, none⟩) ∧ Hid (Ext W wx ∧ wx.heap[b7]? = some (Obj.cells (tyArr (nth g i) pa pl pc ma ml mc oa ol oc) 50 (0, 0)) ∧ wx.heap[b8]? = some (Obj.cells (tyArr (nth g j) pa' pl' pc' ma' ml' mc' oa' ol' oc') 50 (0, 0))))
  case first =>
    refine wp_region_E 99 (by kernel_rfl) ?_
    change wpE _ _ _ _ _ _ _ _ (World.drew _)
    refine tE (i := 0) (v := ?_) (fun w9 hE => ?_) ?_
    rotate_left
    · clear hE; first | (go_simp; done) | (go_simp; with_reducible rfl)
    simp only [Act.put, nm]
    refine tE (i := 1) (v := ?_) (fun w9 hE => ?_) ?_
    rotate_left
    · have hbxE := hE.cell hbx; clear hE; first | (go_simp; done) | (go_simp; with_reducible rfl)
    simp only [Act.put, nm]
    refine tE (i := 2) (v := ?_) (fun w9 hE => ?_) ?_
    rotate_left
    · clear hE; first | (go_simp; done) | (go_simp; with_reducible rfl)
    simp only [Act.put, nm]
    refine tE (i := 3) (v := ?_) (fun w9 hE => ?_) ?_
    rotate_left
    · clear hE; first | (go_simp; done) | (go_simp; with_reducible rfl)
    simp only [Act.put, nm]
    refine tE (i := 4) (v := ?_) (fun w9 hE => ?_) ?_
    rotate_left
    · have c0E := hE.cell c0; have c1E := hE.cell c1; have c2E := hE.cell c2; have c3E := hE.cell c3; have c4E := hE.cell c4; have c5E := hE.cell c5; have c6E := hE.cell c6; have c7E := hE.cell c7; have c8E := hE.cell c8; have c9E := hE.cell c9; clear hE; first | (go_simp; done) | (go_simp; with_reducible rfl)
    simp only [Act.put, nm]
    refine tE (i := 5) (v := ?_) (fun w9 hE => ?_) ?_
    rotate_left
    · clear hE; first | (go_simp; done) | (go_simp; with_reducible rfl)
    simp only [Act.put, nm]
    refine tE (i := 6) (v := ?_) (fun w9 hE => ?_) ?_
    rotate_left
    · have hbxE := hE.cell hbx; clear hE; first | (go_simp; done) | (go_simp; with_reducible rfl)
    simp only [Act.put, nm]
    refine tE (i := 7) (v := ?_) (fun w9 hE => ?_) ?_
    rotate_left
    · clear hE; first | (go_simp; done) | (go_simp; with_reducible rfl)
    simp only [Act.put, nm]
    refine tE (i := 8) (v := ?_) (fun w9 hE => ?_) ?_
    rotate_left
    · clear hE; first | (go_simp; done) | (go_simp; with_reducible rfl)
    simp only [Act.put, nm]
    refine tE (i := 9) (v := ?_) (fun w9 hE => ?_) ?_
    rotate_left
    · have d0E := hE.cell d0; have d1E := hE.cell d1; have d2E := hE.cell d2; have d3E := hE.cell d3; have d4E := hE.cell d4; have d5E := hE.cell d5; have d6E := hE.cell d6; have d7E := hE.cell d7; have d8E := hE.cell d8; have d9E := hE.cell d9; clear hE; first | (go_simp; done) | (go_simp; with_reducible rfl)
    simp only [Act.put, nm]
    refine ⟨by kernel_rfl, ?_⟩
    refine wpS_two (i := 10) (j := 11) rfl rfl (by kernel_rfl) (fun K hK => ?_) (fun K hK => ?_)
    · go_simp
      refine hK _ _ (ext_of_drew ((Ext.alloc _ _).trans (Ext.drew _))) ?_; clear hK K
      refine wpS_only (i := 11) rfl (by kernel_rfl) (fun K hK => ?_)
      go_simp
      refine hK _ _ (ext_of_drew (((Ext.alloc _ _).trans (Ext.alloc _ _)).trans (Ext.drew _))) ?_; clear hK K
      refine wpS_only (i := 12) rfl (by kernel_rfl) (fun K hK => ?_)
      go_simp
      refine hK _ _ (ext_of_drew (((Ext.alloc _ _).trans (Ext.alloc _ _)).trans (Ext.drew _))) ?_; clear hK K
      refine wpS_only (i := 13) rfl (by kernel_rfl) (fun K hK => ?_)
      go_simp
      refine hK _ _ (ext_of_drew (((Ext.alloc _ _).trans (Ext.alloc _ _)).trans (Ext.drew _))) ?_; clear hK K
      refine wpS_done (by kernel_rfl) ?_
      go_wp2_with fail
      go_meet
      exact ⟨_, _, rfl, rfl, ((Ext.alloc _ _).trans (Ext.alloc _ _)).trans (Ext.drew _), (Ext.alloc _ _).block _ (by simp) |>.trans (heap_alloc_new _ _), heap_alloc2 _ _ _⟩
    · go_simp
      refine hK _ _ (ext_of_drew ((Ext.alloc _ _).trans (Ext.drew _))) ?_; clear hK K
      refine wpS_only (i := 10) rfl (by kernel_rfl) (fun K hK => ?_)
      go_simp
      refine hK _ _ (ext_of_drew (((Ext.alloc _ _).trans (Ext.alloc _ _)).trans (Ext.drew _))) ?_; clear hK K
      refine wpS_only (i := 12) rfl (by kernel_rfl) (fun K hK => ?_)
      go_simp
      refine hK _ _ (ext_of_drew (((Ext.alloc _ _).trans (Ext.alloc _ _)).trans (Ext.drew _))) ?_; clear hK K
      refine wpS_only (i := 13) rfl (by kernel_rfl) (fun K hK => ?_)
      go_simp
      refine hK _ _ (ext_of_drew (((Ext.alloc _ _).trans (Ext.alloc _ _)).trans (Ext.drew _))) ?_; clear hK K
      refine wpS_done (by kernel_rfl) ?_
      go_wp2_with fail
      go_meet
      exact ⟨_, _, rfl, rfl, ((Ext.alloc _ _).trans (Ext.alloc _ _)).trans (Ext.drew _), heap_alloc2 _ _ _, (Ext.alloc _ _).block _ (by simp) |>.trans (heap_alloc_new _ _)⟩
  case rest =>
    obtain ⟨b7, b8, rfl, rfl, hH⟩ := hcut
    obtain ⟨hE, h7, h8⟩ := hH.out
    clear hH
    clear c0 c1 c2 c3 c4 c5 c6 c7 c8 c9 d0 d1 d2 d3 d4 d5 d6 d7 d8 d9 hbx
    obtain ⟨c0, c1, c2, c3, c4, c5, c6, c7, c8, c9⟩ := tyBox_of h7
    obtain ⟨d0, d1, d2, d3, d4, d5, d6, d7, d8, d9⟩ := tyBox_of h8
    have hEw := hE0.trans hE
    have hp1 := Parts.mono hEw Hx.out.ps
    have hp2 := Parts.mono hEw Hy.out.ps
    have HEw := Lib.hid hEw
    clear h7 h8 hE hE0 hEw hg
    go_wp2_with fail
    refine (equalFunc131 pa pl pc pa' pl' pc' _ _ _ hp1 hp2).mono ?_
    rintro e w2 ⟨rfl, hE⟩
    have c0 := hE.cell c0
    have c1 := hE.cell c1
    have c2 := hE.cell c2
    have c3 := hE.cell c3
    have c4 := hE.cell c4
    have c5 := hE.cell c5
    have c6 := hE.cell c6
    have c7 := hE.cell c7
    have c8 := hE.cell c8
    have c9 := hE.cell c9
    have d0 := hE.cell d0
    have d1 := hE.cell d1
    have d2 := hE.cell d2
    have d3 := hE.cell d3
    have d4 := hE.cell d4
    have d5 := hE.cell d5
    have d6 := hE.cell d6
    have d7 := hE.cell d7
    have d8 := hE.cell d8
    have d9 := hE.cell d9
    have HE2 := Lib.hid (HEw.out.trans hE)
    clear hE hp1 hp2
    go_upto_region 3 with (fail)
    have hm1 := Meths.mono HE2.out Hx.out.ms
    have hm2 := Meths.mono HE2.out Hy.out.ms
    have ho1 := Overs.mono HE2.out Hx.out.os
    have ho2 := Overs.mono HE2.out Hy.out.os
    clear Hx Hy HEw
    have Hsp := Lib.hid (show agreeB (nth g i) (nth g j) = (plainEq (nth g i) (nth g j) && sameB partEq (nth g i).parts (nth g j).parts && sameB methEq (nth g i).methods (nth g j).methods && sameB overEq (nth g i).overs (nth g j).overs) from rfl)
    refine wp_region_E 99 (by kernel_rfl) ?_
    change wpE _ _ _ _ _ _ _ _ (World.drew _)
    refine tE (i := 0) (v := ?_) (fun w9 hE => ?_) ?_
    rotate_left
    · have c0E := hE.cell c0; have c1E := hE.cell c1; have c2E := hE.cell c2; have c3E := hE.cell c3; have c4E := hE.cell c4; have c5E := hE.cell c5; have c6E := hE.cell c6; have c7E := hE.cell c7; have c8E := hE.cell c8; have c9E := hE.cell c9; clear hE; first | (go_simp; done) | (go_simp; with_reducible rfl)
    simp only [Act.put, nm]
    refine tE (i := 2) (v := ?_) (fun w9 hE => ?_) ?_
    rotate_left
    · have d0E := hE.cell d0; have d1E := hE.cell d1; have d2E := hE.cell d2; have d3E := hE.cell d3; have d4E := hE.cell d4; have d5E := hE.cell d5; have d6E := hE.cell d6; have d7E := hE.cell d7; have d8E := hE.cell d8; have d9E := hE.cell d9; clear hE; first | (go_simp; done) | (go_simp; with_reducible rfl)
    simp only [Act.put, nm]
    clear c0 c1 c2 c3 c4 c5 c6 c7 d0 d1 d2 d3 d4 d5 d6 d7
    refine wpE_only (i := 1) rfl (by kernel_rfl) (by kernel_rfl) (fun K hK => ?_)
    go_simp
    refine (plainOf109 (nth g i) (.slice pa pl pc) (.slice ma ml mc) (.slice oa ol oc) _).mono ?_
    rintro e w3 ⟨rfl, hE⟩
    have hE' := (Ext.drew _).trans hE
    have c8 := hE'.cell c8
    have c9 := hE'.cell c9
    have d8 := hE'.cell d8
    have d9 := hE'.cell d9
    have hm1 := Meths.mono hE' hm1
    have hm2 := Meths.mono hE' hm2
    have ho1 := Overs.mono hE' ho1
    have ho2 := Overs.mono hE' ho2
    have HE3 := Lib.hid (HE2.out.trans hE')
    refine hK _ _ (hE) ?_; clear hK K
    clear hE hE'
    refine wpE_only (i := 3) rfl (by kernel_rfl) (by kernel_rfl) (fun K hK => ?_)
    go_simp
    refine (plainOf109 (nth g j) (.slice pa' pl' pc') (.slice ma' ml' mc') (.slice oa' ol' oc') _).mono ?_
    rintro e w4 ⟨rfl, hE⟩
    have c8 := hE.cell c8
    have c9 := hE.cell c9
    have d8 := hE.cell d8
    have d9 := hE.cell d9
    have hm1 := Meths.mono hE hm1
    have hm2 := Meths.mono hE hm2
    have ho1 := Overs.mono hE ho1
    have ho2 := Overs.mono hE ho2
    have HE4 := Lib.hid (HE3.out.trans hE)
    refine hK _ _ (hE) ?_; clear hK K
    clear hE
    refine wpE_only (i := 4) rfl (by kernel_rfl) (by kernel_rfl) (fun K hK => ?_)
    go_simp
    rw [plain_res]
    refine hK _ _ (Ext.refl _) ?_; clear hK K
    cases hpe : plainEq (nth g i) (nth g j)
    · have hr := Lib.hid (show false = agreeB (nth g i) (nth g j) by rw [Hsp.out, hpe]; rfl)
      clear hpe Hsp
      refine tE (i := 5) (v := ?_) (fun w9 hE => ?_) ?_
      rotate_left
      · clear hE; first | (go_simp; done) | (go_simp; with_reducible rfl)
      simp only [Act.put, nm]
      refine wpE_take (i := 6) (v := undef) rfl (by kernel_rfl) (by kernel_rfl) (by kernel_rfl) (fun _ _ _ h => h) (Or.inr ⟨by kernel_rfl, rfl⟩) ?_
      simp only [Act.put, nm]
      refine tE (i := 7) (v := ?_) (fun w9 hE => ?_) ?_
      rotate_left
      · clear hE; first | (go_simp; done) | (go_simp; with_reducible rfl)
      simp only [Act.put, nm]
      refine tE (i := 8) (v := ?_) (fun w9 hE => ?_) ?_
      rotate_left
      · clear hE; first | (go_simp; done) | (go_simp; with_reducible rfl)
      simp only [Act.put, nm]
      refine wpE_take (i := 9) (v := undef) rfl (by kernel_rfl) (by kernel_rfl) (by kernel_rfl) (fun _ _ _ h => h) (Or.inr ⟨by kernel_rfl, rfl⟩) ?_
      simp only [Act.put, nm]
      refine wpE_take (i := 10) (v := undef) rfl (by kernel_rfl) (by kernel_rfl) (by kernel_rfl) (fun _ _ _ h => h) (Or.inr ⟨by kernel_rfl, rfl⟩) ?_
      simp only [Act.put, nm]
      refine wpE_take (i := 11) (v := undef) rfl (by kernel_rfl) (by kernel_rfl) (by kernel_rfl) (fun _ _ _ h => h) (Or.inr ⟨by kernel_rfl, rfl⟩) ?_
      simp only [Act.put, nm]
      refine wpE_take (i := 12) (v := undef) rfl (by kernel_rfl) (by kernel_rfl) (by kernel_rfl) (fun _ _ _ h => h) (Or.inr ⟨by kernel_rfl, rfl⟩) ?_
      simp only [Act.put, nm]
      refine wpE_take (i := 13) (v := undef) rfl (by kernel_rfl) (by kernel_rfl) (by kernel_rfl) (fun _ _ _ h => h) (Or.inr ⟨by kernel_rfl, rfl⟩) ?_
      simp only [Act.put, nm]
      refine tE (i := 14) (v := ?_) (fun w9 hE => ?_) ?_
      rotate_left
      · clear hE; first | (go_simp; done) | (go_simp; with_reducible rfl)
      simp only [Act.put, nm]
      refine tE (i := 15) (v := ?_) (fun w9 hE => ?_) ?_
      rotate_left
      · clear hE; first | (go_simp; done) | (go_simp; with_reducible rfl)
      simp only [Act.put, nm]
      refine wpE_take (i := 16) (v := undef) rfl (by kernel_rfl) (by kernel_rfl) (by kernel_rfl) (fun _ _ _ h => h) (Or.inr ⟨by kernel_rfl, rfl⟩) ?_
      simp only [Act.put, nm]
      refine wpE_take (i := 17) (v := undef) rfl (by kernel_rfl) (by kernel_rfl) (by kernel_rfl) (fun _ _ _ h => h) (Or.inr ⟨by kernel_rfl, rfl⟩) ?_
      simp only [Act.put, nm]
      refine wpE_take (i := 18) (v := undef) rfl (by kernel_rfl) (by kernel_rfl) (by kernel_rfl) (fun _ _ _ h => h) (Or.inr ⟨by kernel_rfl, rfl⟩) ?_
      simp only [Act.put, nm]
      refine wpE_take (i := 19) (v := undef) rfl (by kernel_rfl) (by kernel_rfl) (by kernel_rfl) (fun _ _ _ h => h) (Or.inr ⟨by kernel_rfl, rfl⟩) ?_
      simp only [Act.put, nm]
      refine wpE_take (i := 20) (v := undef) rfl (by kernel_rfl) (by kernel_rfl) (by kernel_rfl) (fun _ _ _ h => h) (Or.inr ⟨by kernel_rfl, rfl⟩) ?_
      simp only [Act.put, nm]
      refine tE (i := 21) (v := ?_) (fun w9 hE => ?_) ?_
      rotate_left
      · clear hE; first | (go_simp; done) | (go_simp; with_reducible rfl)
      simp only [Act.put, nm]
      refine tE (i := 22) (v := ?_) (fun w9 hE => ?_) ?_
      rotate_left
      · clear hE; first | (go_simp; done) | (go_simp; with_reducible rfl)
      simp only [Act.put, nm]
      refine wpE_done (by kernel_rfl) (by kernel_rfl) ?_
      go_wp2_with fail
      go_ret
      exact ⟨ret_bool hr.out, HE4.out⟩
    cases hpp : sameB partEq (nth g i).parts (nth g j).parts
    · have hr := Lib.hid (show false = agreeB (nth g i) (nth g j) by rw [Hsp.out, hpe, hpp]; rfl)
      clear hpe hpp Hsp
      refine tE (i := 5) (v := ?_) (fun w9 hE => ?_) ?_
      rotate_left
      · clear hE; first | (go_simp; done) | (go_simp; with_reducible rfl)
      simp only [Act.put, nm]
      refine tE (i := 6) (v := ?_) (fun w9 hE => ?_) ?_
      rotate_left
      · clear hE; first | (go_simp; done) | (go_simp; with_reducible rfl)
      simp only [Act.put, nm]
      refine tE (i := 7) (v := ?_) (fun w9 hE => ?_) ?_
      rotate_left
      · clear hE; first | (go_simp; done) | (go_simp; with_reducible rfl)
      simp only [Act.put, nm]
      refine tE (i := 8) (v := ?_) (fun w9 hE => ?_) ?_
      rotate_left
      · clear hE; first | (go_simp; done) | (go_simp; with_reducible rfl)
      simp only [Act.put, nm]
      refine wpE_take (i := 9) (v := undef) rfl (by kernel_rfl) (by kernel_rfl) (by kernel_rfl) (fun _ _ _ h => h) (Or.inr ⟨by kernel_rfl, rfl⟩) ?_
      simp only [Act.put, nm]
      refine wpE_take (i := 10) (v := undef) rfl (by kernel_rfl) (by kernel_rfl) (by kernel_rfl) (fun _ _ _ h => h) (Or.inr ⟨by kernel_rfl, rfl⟩) ?_
      simp only [Act.put, nm]
      refine wpE_take (i := 11) (v := undef) rfl (by kernel_rfl) (by kernel_rfl) (by kernel_rfl) (fun _ _ _ h => h) (Or.inr ⟨by kernel_rfl, rfl⟩) ?_
      simp only [Act.put, nm]
      refine wpE_take (i := 12) (v := undef) rfl (by kernel_rfl) (by kernel_rfl) (by kernel_rfl) (fun _ _ _ h => h) (Or.inr ⟨by kernel_rfl, rfl⟩) ?_
      simp only [Act.put, nm]
      refine wpE_take (i := 13) (v := undef) rfl (by kernel_rfl) (by kernel_rfl) (by kernel_rfl) (fun _ _ _ h => h) (Or.inr ⟨by kernel_rfl, rfl⟩) ?_
      simp only [Act.put, nm]
      refine tE (i := 14) (v := ?_) (fun w9 hE => ?_) ?_
      rotate_left
      · clear hE; first | (go_simp; done) | (go_simp; with_reducible rfl)
      simp only [Act.put, nm]
      refine tE (i := 15) (v := ?_) (fun w9 hE => ?_) ?_
      rotate_left
      · clear hE; first | (go_simp; done) | (go_simp; with_reducible rfl)
      simp only [Act.put, nm]
      refine wpE_take (i := 16) (v := undef) rfl (by kernel_rfl) (by kernel_rfl) (by kernel_rfl) (fun _ _ _ h => h) (Or.inr ⟨by kernel_rfl, rfl⟩) ?_
      simp only [Act.put, nm]
      refine wpE_take (i := 17) (v := undef) rfl (by kernel_rfl) (by kernel_rfl) (by kernel_rfl) (fun _ _ _ h => h) (Or.inr ⟨by kernel_rfl, rfl⟩) ?_
      simp only [Act.put, nm]
      refine wpE_take (i := 18) (v := undef) rfl (by kernel_rfl) (by kernel_rfl) (by kernel_rfl) (fun _ _ _ h => h) (Or.inr ⟨by kernel_rfl, rfl⟩) ?_
      simp only [Act.put, nm]
      refine wpE_take (i := 19) (v := undef) rfl (by kernel_rfl) (by kernel_rfl) (by kernel_rfl) (fun _ _ _ h => h) (Or.inr ⟨by kernel_rfl, rfl⟩) ?_
      simp only [Act.put, nm]
      refine wpE_take (i := 20) (v := undef) rfl (by kernel_rfl) (by kernel_rfl) (by kernel_rfl) (fun _ _ _ h => h) (Or.inr ⟨by kernel_rfl, rfl⟩) ?_
      simp only [Act.put, nm]
      refine tE (i := 21) (v := ?_) (fun w9 hE => ?_) ?_
      rotate_left
      · clear hE; first | (go_simp; done) | (go_simp; with_reducible rfl)
      simp only [Act.put, nm]
      refine tE (i := 22) (v := ?_) (fun w9 hE => ?_) ?_
      rotate_left
      · clear hE; first | (go_simp; done) | (go_simp; with_reducible rfl)
      simp only [Act.put, nm]
      refine wpE_done (by kernel_rfl) (by kernel_rfl) ?_
      go_wp2_with fail
      go_ret
      exact ⟨ret_bool hr.out, HE4.out⟩
    have Hpe := Lib.hid hpe; clear hpe
    have Hpp := Lib.hid hpp; clear hpp
    refine tE (i := 5) (v := ?_) (fun w9 hE => ?_) ?_
    rotate_left
    · clear hE; first | (go_simp; done) | (go_simp; with_reducible rfl)
    simp only [Act.put, nm]
    refine tE (i := 6) (v := ?_) (fun w9 hE => ?_) ?_
    rotate_left
    · clear hE; first | (go_simp; done) | (go_simp; with_reducible rfl)
    simp only [Act.put, nm]
    refine tE (i := 7) (v := ?_) (fun w9 hE => ?_) ?_
    rotate_left
    · clear hE; first | (go_simp; done) | (go_simp; with_reducible rfl)
    simp only [Act.put, nm]
    refine tE (i := 8) (v := ?_) (fun w9 hE => ?_) ?_
    rotate_left
    · clear hE; first | (go_simp; done) | (go_simp; with_reducible rfl)
    simp only [Act.put, nm]
    refine tE (i := 9) (v := ?_) (fun w9 hE => ?_) ?_
    rotate_left
    · clear hE; first | (go_simp; done) | (go_simp; with_reducible rfl)
    simp only [Act.put, nm]
    refine tE (i := 10) (v := ?_) (fun w9 hE => ?_) ?_
    rotate_left
    · have c8E := hE.cell c8; clear hE; first | (go_simp; done) | (go_simp; with_reducible rfl)
    simp only [Act.put, nm]
    refine tE (i := 11) (v := ?_) (fun w9 hE => ?_) ?_
    rotate_left
    · clear hE; first | (go_simp; done) | (go_simp; with_reducible rfl)
    simp only [Act.put, nm]
    refine tE (i := 12) (v := ?_) (fun w9 hE => ?_) ?_
    rotate_left
    · have d8E := hE.cell d8; clear hE; first | (go_simp; done) | (go_simp; with_reducible rfl)
    simp only [Act.put, nm]
    refine wpE_only (i := 13) rfl (by kernel_rfl) (by kernel_rfl) (fun K hK => ?_)
    go_simp
    refine (equalFunc133 ma ml mc ma' ml' mc' _ _ _ hm1 hm2).mono ?_
    rintro e w5 ⟨rfl, hE⟩
    have c9 := hE.cell c9
    have d9 := hE.cell d9
    have ho1 := Overs.mono hE ho1
    have ho2 := Overs.mono hE ho2
    have HE5 := Lib.hid (HE4.out.trans hE)
    refine hK _ _ (hE) ?_; clear hK K
    clear hE
    cases hmm : sameB methEq (nth g i).methods (nth g j).methods
    · have hr := Lib.hid (show false = agreeB (nth g i) (nth g j) by rw [Hsp.out, Hpe.out, Hpp.out, hmm]; rfl)
      clear hmm Hsp
      refine tE (i := 14) (v := ?_) (fun w9 hE => ?_) ?_
      rotate_left
      · clear hE; first | (go_simp; done) | (go_simp; with_reducible rfl)
      simp only [Act.put, nm]
      refine tE (i := 15) (v := ?_) (fun w9 hE => ?_) ?_
      rotate_left
      · clear hE; first | (go_simp; done) | (go_simp; with_reducible rfl)
      simp only [Act.put, nm]
      refine wpE_take (i := 16) (v := undef) rfl (by kernel_rfl) (by kernel_rfl) (by kernel_rfl) (fun _ _ _ h => h) (Or.inr ⟨by kernel_rfl, rfl⟩) ?_
      simp only [Act.put, nm]
      refine wpE_take (i := 17) (v := undef) rfl (by kernel_rfl) (by kernel_rfl) (by kernel_rfl) (fun _ _ _ h => h) (Or.inr ⟨by kernel_rfl, rfl⟩) ?_
      simp only [Act.put, nm]
      refine wpE_take (i := 18) (v := undef) rfl (by kernel_rfl) (by kernel_rfl) (by kernel_rfl) (fun _ _ _ h => h) (Or.inr ⟨by kernel_rfl, rfl⟩) ?_
      simp only [Act.put, nm]
      refine wpE_take (i := 19) (v := undef) rfl (by kernel_rfl) (by kernel_rfl) (by kernel_rfl) (fun _ _ _ h => h) (Or.inr ⟨by kernel_rfl, rfl⟩) ?_
      simp only [Act.put, nm]
      refine wpE_take (i := 20) (v := undef) rfl (by kernel_rfl) (by kernel_rfl) (by kernel_rfl) (fun _ _ _ h => h) (Or.inr ⟨by kernel_rfl, rfl⟩) ?_
      simp only [Act.put, nm]
      refine tE (i := 21) (v := ?_) (fun w9 hE => ?_) ?_
      rotate_left
      · clear hE; first | (go_simp; done) | (go_simp; with_reducible rfl)
      simp only [Act.put, nm]
      refine tE (i := 22) (v := ?_) (fun w9 hE => ?_) ?_
      rotate_left
      · clear hE; first | (go_simp; done) | (go_simp; with_reducible rfl)
      simp only [Act.put, nm]
      refine wpE_done (by kernel_rfl) (by kernel_rfl) ?_
      go_wp2_with fail
      go_ret
      exact ⟨ret_bool hr.out, HE5.out⟩
    have hr := Lib.hid (show sameB overEq (nth g i).overs (nth g j).overs = agreeB (nth g i) (nth g j) by rw [Hsp.out, Hpe.out, Hpp.out, hmm]; rfl)
    clear hmm Hsp
    refine tE (i := 14) (v := ?_) (fun w9 hE => ?_) ?_
    rotate_left
    · clear hE; first | (go_simp; done) | (go_simp; with_reducible rfl)
    simp only [Act.put, nm]
    refine tE (i := 15) (v := ?_) (fun w9 hE => ?_) ?_
    rotate_left
    · clear hE; first | (go_simp; done) | (go_simp; with_reducible rfl)
    simp only [Act.put, nm]
    refine tE (i := 16) (v := ?_) (fun w9 hE => ?_) ?_
    rotate_left
    · clear hE; first | (go_simp; done) | (go_simp; with_reducible rfl)
    simp only [Act.put, nm]
    refine tE (i := 17) (v := ?_) (fun w9 hE => ?_) ?_
    rotate_left
    · have c9E := hE.cell c9; clear hE; first | (go_simp; done) | (go_simp; with_reducible rfl)
    simp only [Act.put, nm]
    refine tE (i := 18) (v := ?_) (fun w9 hE => ?_) ?_
    rotate_left
    · clear hE; first | (go_simp; done) | (go_simp; with_reducible rfl)
    simp only [Act.put, nm]
    refine tE (i := 19) (v := ?_) (fun w9 hE => ?_) ?_
    rotate_left
    · have d9E := hE.cell d9; clear hE; first | (go_simp; done) | (go_simp; with_reducible rfl)
    simp only [Act.put, nm]
    refine wpE_only (i := 20) rfl (by kernel_rfl) (by kernel_rfl) (fun K hK => ?_)
    go_simp
    refine (equal135 oa ol oc oa' ol' oc' _ _ _ ho1 ho2).mono ?_
    rintro e w6 ⟨rfl, hE⟩
    have HE6 := Lib.hid (HE5.out.trans hE)
    refine hK _ _ (hE) ?_; clear hK K
    clear hE
    refine tE (i := 21) (v := ?_) (fun w9 hE => ?_) ?_
    rotate_left
    · clear hE; first | (go_simp; done) | (go_simp; with_reducible rfl)
    simp only [Act.put, nm]
    refine tE (i := 22) (v := ?_) (fun w9 hE => ?_) ?_
    rotate_left
    · clear hE; first | (go_simp; done) | (go_simp; with_reducible rfl)
    simp only [Act.put, nm]
    refine wpE_done (by kernel_rfl) (by kernel_rfl) ?_
    go_wp2_with fail
    go_ret
    exact ⟨ret_bool hr.out, HE6.out⟩
end Go.Proofs.YtjffkeoajkhbmaaGreat

namespace Go.Proofs.YtjffkeoajkhbmaaGreat
open Go.RowKit Go.Proofs
set_option linter.unusedSimpArgs false
set_option maxHeartbeats 400000 in
set_option maxRecDepth 100000 in
theorem refs137 (a : Option Addr) (n c : Nat) (g : List Ty) (i : Nat) (w : World) (hg : Graph w (.slice a n c) g) (hi : i < n) :
    Calls Tryz.prog 137 #[.agg #[.slice a n c], .int .i64 i] w fun e w' => ∃ bx, e = .returned (.func (.func 165) #[] #[.pointer (some ⟨bx, 0, none⟩)]) ∧ Ext w w' ∧
      ∃ pa pl pc ma ml mc ov, Box w' bx (nth g i) (.slice pa pl pc) (.slice ma ml mc) ov ∧ Parts w' (.slice pa pl pc) (nth g i).parts ∧ Meths w' (.slice ma ml mc) (nth g i).methods := by
  have hb := (SlW.bound hg).2
  obtain rfl := SlW.len hg
  obtain ⟨xb, xo, pa, pl, pc, ma, ml, mc, oa, ol, oc, hxo, hxl, hx⟩ := Graph.at hg hi
  subst hxo
  obtain ⟨c0, c1, c2, c3, c4, c5, c6, c7, c8, c9, hps, hms, hos, hok⟩ := hx
  go_enter Tryz.func137, Tryz.ntmps137
  go_wp2
  refine bodyPost_ret (v := .func (.func 165) #[] #[.pointer (some ⟨w.heap.size + 1, 0, none⟩)]) (by simp [results, Tryz.results137, go_sem]) rfl ⟨_, rfl, (Ext.alloc _ _).trans (Ext.alloc _ _), pa, pl, pc, ma, ml, mc, .slice oa ol oc, heap_alloc2 _ _ _, Parts.mono ((Ext.alloc _ _).trans (Ext.alloc _ _)) hps, Meths.mono ((Ext.alloc _ _).trans (Ext.alloc _ _)) hms⟩
theorem enters165 : Enters Tryz.prog 165 := enters_of Tryz.func165 (by kernel_rfl) rfl
set_option maxHeartbeats 400000 in
set_option maxRecDepth 100000 in
theorem collect136 (lb : Array Value) (gf : Nat) (he : ∀ args w, (callFunc gf args).run Tryz.prog w = .ok (.enter gf args) w) (xs : List Int) (hlen : xs.length ≤ 100000) (w0 w : World) (hE0 : Ext w0 w) (hseq : YieldsInts w0 gf lb xs w) :
    Calls Tryz.prog 136 #[.func (.func gf) #[] lb] w fun e w' => ∃ v, e = .returned v ∧ w'.ownsRow w.heap.size 3 1 v xs.length (xs.map (Value.int .i64)) ∧ Ext w w' := by
  have Hc := Lib.hid (appendSeq164 gf lb he xs hlen w0 w hE0 hseq)
  clear hseq he
  go_enter Tryz.func136, Tryz.ntmps136
  go_wp2_with fail
  refine Hc.out.mono ?_
  rintro e w1 ⟨v, rfl, hown, hE⟩
  have Ho := Lib.hid hown; clear hown
  have HE := Lib.hid hE; clear hE
  go_wp2_with fail
  go_ret
  exact ⟨v, rfl, Ho.out, HE.out⟩
theorem refs_bound {w : World} {a b : Option Addr} {n c m d : Nat} {x : Ty} (hp : Parts w (.slice a n c) x.parts) (hm : Meths w (.slice b m d) x.methods) (ok : TyOk x) :
    ∀ y, y ∈ refsOf x → -9223372036854775808 ≤ y ∧ y ≤ 9223372036854775807 := by
  intro y hy
  rw [refsOf_eq] at hy
  simp only [List.mem_append, List.mem_flatten, List.mem_map] at hy
  rcases hy with (hy | ⟨p, hpm, rfl⟩) | ⟨l, ⟨me, hme, rfl⟩, hy⟩
  · unfold supersOf at hy
    split at hy
    · rw [List.mem_singleton.1 hy]; exact ⟨ok.s0, ok.s1⟩
    · cases hy
  · obtain ⟨i, hi, rfl⟩ := List.getElem_of_mem hpm
    rw [← nth_eq hi]
    obtain ⟨_, _, _, _, _, _, _, h1, h2⟩ := Parts.at hp (show i < n by rw [SlW.len hp]; exact hi)
    exact ⟨h1, h2⟩
  · obtain ⟨i, hi, rfl⟩ := List.getElem_of_mem hme
    rw [← nth_eq hi] at hy
    obtain ⟨_, _, _, al, _, _, _, _, _, _, _, _, _, _, _, ha, _, h1, h2, _⟩ := Meths.at hm (show i < m by rw [SlW.len hm]; exact hi)
    unfold methRefs at hy
    rcases List.mem_append.1 hy with hy | hy
    · obtain ⟨k, hk, rfl⟩ := List.getElem_of_mem hy
      rw [← nth_eq hk]
      obtain ⟨_, _, _, _, _, h3, h4⟩ := Ints.at ha (show k < al by rw [SlW.len ha]; exact hk)
      exact ⟨h3, h4⟩
    · split at hy
      · rw [List.mem_singleton.1 hy]; exact ⟨h1, h2⟩
      · cases hy
theorem parts_le {g : List Ty} {x : Ty} (h : rightB g x = true) : x.parts.length ≤ 8 ∧ x.methods.length ≤ 8 ∧ ∀ me, me ∈ x.methods → signedB g.length me.sig = true := by
  unfold rightB at h
  split at h
  · simp [noParts, noRows] at h; simp [h]
  split at h
  · simp only [Bool.and_eq_true, heldB, noRows, beq_iff_eq] at h
    obtain ⟨⟨⟨⟨⟨_, h1⟩, _⟩, _⟩, _⟩, h2⟩ := h
    have hm := List.eq_nil_of_length_eq_zero h2.1
    refine ⟨?_, by rw [hm]; simp, by rw [hm]; simp⟩
    match x.parts, h1 with
    | [p], _ => simp
  split at h
  · simp only [Bool.and_eq_true, recordedB, differentB, noRows, beq_iff_eq, decide_eq_true_eq] at h
    obtain ⟨⟨⟨⟨⟨_, h1⟩, _⟩, _⟩, _⟩, h2⟩ := h
    have hm := List.eq_nil_of_length_eq_zero h2.1
    refine ⟨by simpa using h1.2, by rw [hm]; simp, by rw [hm]; simp⟩
  split at h
  · simp only [Bool.and_eq_true, objectsB, objectB, differentB, decide_eq_true_eq, List.all_eq_true] at h
    obtain ⟨⟨⟨⟨_, h1⟩, ⟨⟨⟨⟨h3, _⟩, h2⟩, _⟩, _⟩⟩, _⟩, _⟩ := h
    exact ⟨by simpa using h1.2, by simpa using h2.2, fun me hme => (h3 me hme).1⟩
  split at h
  · simp [noParts, noRows] at h; simp [h]
  split at h
  · simp [noParts, noRows] at h; simp [h]
  · cases h
theorem flatten_le {α : Type} (f : α → List Int) (b : Nat) : ∀ (xs : List α), (∀ x, x ∈ xs → (f x).length ≤ b) → (xs.map f).flatten.length ≤ xs.length * b
  | [], _ => by simp
  | x :: xs, h => by
    have h1 := h x (List.mem_cons_self ..)
    have h2 := flatten_le f b xs (fun y hy => h y (List.mem_cons_of_mem _ hy))
    simp only [List.map_cons, List.flatten_cons, List.length_append, List.length_cons]
    rw [Nat.succ_mul]; omega
theorem refs_len {g : List Ty} {x : Ty} (h : rightB g x = true) : (refsOf x).length ≤ 100 := by
  obtain ⟨h1, h2, h3⟩ := parts_le h
  rw [refsOf_eq]
  have hf := flatten_le methRefs 7 x.methods (fun me hme => by
    have := h3 me hme
    simp only [signedB, Bool.and_eq_true, decide_eq_true_eq] at this
    unfold methRefs
    rw [List.length_append]
    split <;> simp <;> omega)
  have hs : (supersOf x).length ≤ 1 := by unfold supersOf; split <;> simp
  simp only [List.length_append, List.length_map]
  omega
theorem hasI_iff {n : Nat} {i : Int} : hasI n i = true ↔ 0 ≤ i ∧ i < n := by simp [hasI]
theorem parts_in {g : List Ty} {x : Ty} (h : rightB g x = true) : ∀ p, p ∈ x.parts → hasI g.length p.type = true := by
  have hbr : brandedB g x = true → ∀ p, p ∈ x.parts → hasI g.length p.type = true := fun h => by
    simp only [brandedB, Bool.and_eq_true, List.all_eq_true] at h
    exact h.2
  have hno : noParts x = true → ∀ p, p ∈ x.parts → hasI g.length p.type = true := fun h p hp => by
    simp only [noParts, beq_iff_eq] at h
    rw [List.eq_nil_of_length_eq_zero h] at hp
    cases hp
  unfold rightB at h
  split at h
  · simp only [Bool.and_eq_true] at h; exact hno h.1.2
  split at h
  · simp only [Bool.and_eq_true, heldB] at h; exact hbr h.1.1.1.1.1
  split at h
  · simp only [Bool.and_eq_true, recordedB] at h; exact hbr h.1.1.1.1.1.1
  split at h
  · simp only [Bool.and_eq_true, objectsB] at h; exact hbr h.1.1.1.1
  split at h
  · simp only [Bool.and_eq_true] at h; exact hno h.1.2
  split at h
  · simp only [Bool.and_eq_true] at h; exact hno h.1.2
  · cases h
theorem refs_in {g : List Ty} {x : Ty} (h : rightB g x = true) : ∀ y, y ∈ refsOf x → 0 ≤ y ∧ y < g.length := by
  intro y hy
  rw [refsOf_eq] at hy
  simp only [List.mem_append, List.mem_flatten, List.mem_map] at hy
  rcases hy with (hy | ⟨p, hpm, rfl⟩) | ⟨l, ⟨me, hme, rfl⟩, hy⟩
  · unfold supersOf at hy
    split at hy
    · rename_i hs
      rw [List.mem_singleton.1 hy]; exact right_super h hs
    · cases hy
  · exact hasI_iff.1 (parts_in h p hpm)
  · have hs := (parts_le h).2.2 me hme
    simp only [signedB, Bool.and_eq_true, List.all_eq_true, Bool.or_eq_true, beq_iff_eq] at hs
    unfold methRefs at hy
    rcases List.mem_append.1 hy with hy | hy
    · exact hasI_iff.1 (hs.1.2 y hy)
    · split at hy
      · rename_i h0
        rw [List.mem_singleton.1 hy]
        rcases hs.1.1.2 with h1 | h1
        · omega
        · exact hasI_iff.1 h1
      · cases hy
set_option maxHeartbeats 400000 in
set_option maxRecDepth 100000 in
theorem list102 (a : Option Addr) (n c : Nat) (g : List Ty) (i : Nat) (w : World) (hg : Graph w (.slice a n c) g) (hi : i < n) (hr : rightB g (nth g i) = true) :
    Calls Tryz.prog 102 #[.agg #[.slice a n c], .int .i64 i] w fun e w' => ∃ v, e = .returned v ∧ Ints w' v (refsOf (nth g i)) ∧ Ext w w' := by
  have hlen := refs_len hr
  obtain rfl := SlW.len hg
  have hg1 := Graph.mono (Ext.alloc w (.cells #[.slice a g.length c] 118)) hg
  have Hr := Lib.hid (refs137 a _ c g i _ hg1 hi)
  have HT := Lib.hid (Graph.at hg hi)
  clear hg1 hr
  go_enter Tryz.func102, Tryz.ntmps102
  go_wp2_with fail
  refine Hr.out.mono ?_
  rintro e w1 ⟨bx, rfl, hE, pa, pl, pc, ma, ml, mc, ov, hx, hp, hm⟩
  have Hy := Lib.hid (refs165 w1 w1 (Ext.refl _) bx _ pa pl pc ma ml mc ov hx hp hm)
  have Hb := Lib.hid (refs_bound hp hm (by obtain ⟨_, _, _, _, _, _, _, _, _, _, _, _, _, hT⟩ := HT.out; exact hT.ok))
  have HE := Lib.hid ((Ext.alloc _ _).trans hE); clear hE hx hp hm
  go_wp2_with fail
  refine (collect136 _ 165 enters165 _ (Nat.le_trans hlen (by decide)) _ _ (Ext.refl _) Hy.out).mono ?_
  rintro e w2 ⟨v, rfl, hown, hE⟩
  have Ho := Lib.hid (owns_ints hown (by unfold maxBytes; omega) Hb.out); clear hown
  have HE2 := Lib.hid (HE.out.trans hE); clear hE
  go_wp2_with fail
  go_ret
  exact ⟨v, rfl, Ho.out, HE2.out⟩
set_option maxHeartbeats 400000 in
theorem class103 (bc : Nat) (a : Option Addr) (n c : Nat) (cl : List Int) (i : Nat) (w : World) (hb : w.cell? ⟨bc, 0, none⟩ = some (.slice a n c)) (hc : Ints w (.slice a n c) cl) (hi : i < n) :
    Calls Tryz.prog 103 #[.int .i64 i, .pointer (some ⟨bc, 0, none⟩)] w fun e w' => e = .returned (.int .i64 (nth cl i)) ∧ Ext w w' := by
  have hbd := (SlW.bound hc).2
  obtain ⟨xb, xo, rfl, hxl, c0, _⟩ := Ints.at hc hi
  go_enter Tryz.func103, Tryz.ntmps103
  go_wp2
  go_ret
  exact ⟨rfl, Ext.refl _⟩
set_option maxHeartbeats 400000 in
theorem class105 (bc : Nat) (a : Option Addr) (n c : Nat) (cl : List Int) (i : Nat) (w : World) (hb : w.cell? ⟨bc, 0, none⟩ = some (.slice a n c)) (hc : Ints w (.slice a n c) cl) (hi : i < n) :
    Calls Tryz.prog 105 #[.int .i64 i, .pointer (some ⟨bc, 0, none⟩)] w fun e w' => e = .returned (.int .i64 (nth cl i)) ∧ Ext w w' := by
  have hbd := (SlW.bound hc).2
  obtain ⟨xb, xo, rfl, hxl, c0, _⟩ := Ints.at hc hi
  go_enter Tryz.func105, Tryz.ntmps105
  go_wp2
  go_ret
  exact ⟨rfl, Ext.refl _⟩
theorem enters103 : Enters Tryz.prog 103 := enters_of Tryz.func103 (by kernel_rfl) rfl
theorem enters105 : Enters Tryz.prog 105 := enters_of Tryz.func105 (by kernel_rfl) rfl
end Go.Proofs.YtjffkeoajkhbmaaGreat

namespace Go.Proofs.YtjffkeoajkhbmaaGreat
open Go.RowKit Go.Proofs
set_option linter.unusedSimpArgs false
def RowI (w : World) (r n : Nat) (F : Nat → Int) : Prop := w.heap[r]? = some (Obj.cells ((List.range n).map fun i => Value.int .i64 (F i)).toArray 3 (0, 0))
theorem RowI.lt {w : World} {r n : Nat} {F : Nat → Int} (h : RowI w r n F) : r < w.heap.size := (Array.getElem?_eq_some_iff.1 h).1
theorem RowI.cell {w : World} {r n : Nat} {F : Nat → Int} (h : RowI w r n F) {i : Nat} (hi : i < n) : w.cell? ⟨r, i, none⟩ = some (.int .i64 (F i)) :=
  cell_of_heap h (by simp [hi])
theorem RowI.free {w : World} {r n : Nat} {F : Nat → Int} (h : RowI w r n F) (i : Nat) : w.frozen? ⟨r, i, none⟩ = false := by
  unfold World.frozen?
  rw [show w.heap[(⟨r, i, none⟩ : Addr).block]? = _ from h]
  simp
theorem RowI.congr {w : World} {r n : Nat} {F G : Nat → Int} (h : RowI w r n F) (hF : ∀ i, i < n → F i = G i) : RowI w r n G := by
  unfold RowI at h ⊢
  rw [h]
  congr 3
  apply List.map_congr_left
  intro i hi
  rw [hF i (List.mem_range.1 hi)]
theorem RowI.ext {w w' : World} {r n : Nat} {F : Nat → Int} (h : RowI w r n F) (hE : Ext w w') : RowI w' r n F := (hE.block r h.lt).trans h
theorem RowI.kept {w w' : World} {r n : Nat} {F : Nat → Int} {b : Option Nat} (h : RowI w r n F) (hg : w.grownBy w' b) (hn : b ≠ some r) : RowI w' r n F := (hg.block r h.lt (fun e => hn e.symm)).trans h
theorem RowI.set {w : World} {r n : Nat} {F : Nat → Int} (h : RowI w r n F) (i : Nat) (v : Int) : RowI (w.setCell ⟨r, i, none⟩ (.int .i64 v)) r n (fun j => if j = i then v else F j) := by
  unfold RowI World.setCell
  simp only [Array.getElem?_modify, if_true]
  rw [show w.heap[r]? = _ from h]
  simp only [Option.map_some, Option.isSome_none, Bool.false_eq_true, if_false]
  congr 2
  refine Array.ext_getElem? fun k => ?_
  rw [Array.getElem?_setIfInBounds]
  by_cases hk : i = k
  · subst hk
    by_cases hi : i < n <;> simp [hi]
  · rw [if_neg hk]
    by_cases hi : k < n <;> simp [hi, Ne.symm hk]
theorem RowI.make (w : World) (n : Nat) : RowI (w.alloc (.cells (madeCells #[.int .i64 0] n) 3)) w.heap.size n (fun _ => 0) := by
  unfold RowI
  rw [heap_alloc_new]
  congr 2
  apply Array.ext
  · simp [size_madeCells]
  · intro k h1 h2
    simp [madeCells, Nat.mod_one]
theorem RowI.ints {w : World} {r n : Nat} {F : Nat → Int} (h : RowI w r n F) (hn : n * 8 ≤ maxBytes) (hb : ∀ i, i < n → -9223372036854775808 ≤ F i ∧ F i ≤ 9223372036854775807) :
    Ints w (.slice (some ⟨r, 0, none⟩) n n) ((List.range n).map F) :=
  ⟨some ⟨r, 0, none⟩, n, by simp, by simp, by simpa using hn, fun i x hi => by
    have hl : i < n := by have := (List.getElem?_eq_some_iff.1 hi).1; simpa using this
    have hx : x = F i := by simpa [hl] using hi.symm
    subst hx
    exact ⟨r, 0, _, rfl, ⟨rfl, hb i hl⟩, rfl, fun j u hu => by
      match j, hu with
      | 0, hu => simp at hu; subst hu; simpa using h.cell hl⟩⟩
theorem makeInts (n : Nat) (hn : n * 8 ≤ 140737488351232) (w : World) : (Instr.makeSlice 35 (.int .i64 n) (.int .i64 n)).run Tryz.prog w = .ok (.slice (some ⟨w.heap.size, 0, none⟩) n n) (w.alloc (.cells (madeCells #[.int .i64 0] n) 3)) := by
  obtain ⟨i0, hi, hz0, hz1, hz2⟩ := info_parts info3
  have := run_make (P := Tryz.prog) w 35 3 i0 (.int .i64 0) Tryz.underlying35 hi hz0 .i64 .i64 n n (by omega) (Int.le_refl _) (by rw [hz2]; omega) (by omega)
  rw [this, hz1]
  simp [Value.cells]
def mineOf (g : List Ty) (C : Nat → Nat) (i : Nat) : List Int := (refsOf (nth g i)).map fun r => (C r.toNat : Int)
def stepQ (g : List Ty) (C : Nat → Nat) (i k : Nat) : Bool := sameB (fun (x y : Int) => x == y) (mineOf g C i) (mineOf g C k)
def classStep (g : List Ty) (C : Nat → Nat) : Nat → Nat := parted C (stepQ g C)
def class0 (g : List Ty) : Nat → Nat := leadF fun i k => agreeB (nth g i) (nth g k)
def classIter (g : List Ty) : Nat → Nat → Nat
  | 0 => class0 g
  | m + 1 => classStep g (classIter g m)
def isFix (g : List Ty) (m : Nat) : Bool := (List.range g.length).all fun i => classIter g (m + 1) i == classIter g m i
def classesOf (g : List Ty) : Nat → Nat := classIter g (((List.range (g.length + 1)).find? (isFix g)).getD g.length)
theorem leading_iter (g : List Ty) : ∀ m, Leading (classIter g m)
  | 0 => leading_leadF _
  | m + 1 => leading_leadF _
theorem iter_grows {g : List Ty} {m : Nat} (h : isFix g m = false) : leaders g.length (classIter g m) < leaders g.length (classIter g (m + 1)) := by
  unfold isFix at h
  rw [List.all_eq_false] at h
  obtain ⟨i, hi, h1⟩ := h
  have h2 : ¬ classIter g (m + 1) i = classIter g m i := by simpa using h1
  exact leaders_lt (leading_iter g m) _ (List.mem_range.1 hi) h2
theorem classesOf_eq {g : List Ty} {m : Nat} (hm : m ≤ g.length) (h1 : isFix g m = true) (h2 : ∀ j, j < m → isFix g j = false) : classesOf g = classIter g m := by
  have : (List.range (g.length + 1)).find? (isFix g) = some m := by
    rw [List.find?_range_eq_some]
    exact ⟨h1, by simp; omega, fun j hj => by simp [h2 j hj]⟩
  rw [classesOf, this]; rfl
end Go.Proofs.YtjffkeoajkhbmaaGreat
