/- sub.list, Above, Join. sub.Join. Words, spans, Assign. -/
import Derived.Test.YtjffkeoajkhbmaaGreatM11
namespace Go.Proofs.YtjffkeoajkhbmaaGreat
open Go.RowKit Go.Proofs
set_option linter.unusedSimpArgs false
theorem filter_snoc (p : Nat → Bool) (k : Nat) : (List.range (k + 1)).filter p = (List.range k).filter p ++ (if p k then [k] else []) := by
  rw [List.range_succ, List.filter_append]
  cases h : p k <;> simp [h]
def numsOf (l : List Nat) : List Int := l.map fun (i : Nat) => (i : Int)
set_option maxHeartbeats 400000 in
theorem list50 (F : FuncId) (hF : Enters Tryz.prog F) (pre cap : Array Value) (a : Option Addr) (n c : Nat) (hn : n ≤ 400) (p : Nat → Bool) (w : World)
    (hf : ∀ k w1, k < n → Ext w w1 → Calls Tryz.prog F (pre ++ #[.int .i64 k] ++ cap) w1 (fun e w2 => e = .returned (.bool (p k)) ∧ Ext w1 w2)) :
    Calls Tryz.prog 50 #[.slice a n c, .func (.func F) pre cap] w fun e w2 => ∃ v, e = .returned v ∧ Ints w2 v (numsOf ((List.range n).filter p)) ∧ Ext w w2 := by
  have Hf := Lib.hid hf; clear hf
  obtain ⟨i0, hi, hz0, hz1, hz2⟩ := info_parts info3
  go_enter Tryz.func50, Tryz.ntmps50
  go_wp2
  go_loopw [5, 6, 9] (fun v _ i wr => ∃ k : Nat, k ≤ n ∧ i = .int .i64 k ∧ wr.ownsRow w.heap.size 3 1 v ((List.range k).filter p).length ((numsOf ((List.range k).filter p)).map (Value.int .i64)) ∧ Hid (Ext w wr)) (fun _ _ i _ => n - (intOf i).toNat)
  case atStart => exact ⟨0, Nat.zero_le _, rfl, World.ownsRow_nil _ _ _ _, Ext.refl w⟩
  case round =>
    obtain ⟨k, hk, rfl, hown, hE⟩ := hrel
    by_cases hlt : k < n
    · have hsz := hE.out.size
      have hEn : ∀ (args : Array Value) (w : World), (callFunc F args).run Tryz.prog w = .ok (.enter F args) w := hF
      have hle : ((List.range k).filter p).length ≤ k := by have := List.length_filter_le p (List.range k); simpa using this
      have Hown := Lib.hid hown; clear hown
      go_wp2_with fail
      refine (Hf.out k _ hlt hE.out).mono ?_
      rintro e w2 ⟨rfl, hE2⟩
      have hown2 := owns_ext Hown.out hE2
      have hE3 := Lib.hid (hE.out.trans hE2)
      have hsz2 := hE2.size
      clear hE2
      cases hp : p k
      · have Hs := Lib.hid (show (List.range (k + 1)).filter p = (List.range k).filter p by rw [filter_snoc, hp]; simp)
        have Hown2 := Lib.hid hown2
        clear hp hown2
        go_wp2_with fail
        go_roundw
        case rel => exact ⟨k + 1, by omega, by go_num, by rw [Hs.out]; exact Hown2.out, hE3⟩
        case measure => simp [intOf]; omega
      · have Hs := Lib.hid (show (List.range (k + 1)).filter p = (List.range k).filter p ++ [k] by rw [filter_snoc, hp]; simp)
        clear hp
        obtain ⟨m, hm⟩ : ∃ m, m = ((List.range k).filter p).length := ⟨_, rfl⟩
        rw [← hm] at hown2 hle
        obtain ⟨L, hL⟩ : ∃ L, L = (numsOf ((List.range k).filter p)).map (Value.int .i64) := ⟨_, rfl⟩
        rw [← hL] at hown2
        have Hm := Lib.hid hm; clear hm
        have HL := Lib.hid hL; clear hL
        clear Hown
        go_wp2_with (at_builtin; refine wpList_append_own _ rfl _ _ 35 rfl w.heap.size 3 i0 (.int .i64 0) 1 8 Tryz.underlying35 hi hz0 hz1 hz2 rfl (by decide) _ _ _ rfl (hown2.alloc _) ⟨w2.heap.size, 0, none⟩ 1 1 [.int .i64 k] rfl rfl ?c1 ?c2 ?c3 ?c4 ?c5 ?_)
        case c1 => exact cell_one_new _ _ _
        case c2 => simp [Value.oneCell']
        case c3 => unfold maxLen; omega
        case c4 => omega
        case c5 => simp; omega
        intro v' w3 hown3 hgrow3 _
        have hE4 := Lib.hid (below_grown hE3.out (by omega) hown2 hgrow3)
        have Hown3 := Lib.hid hown3
        clear hown3 hgrow3 hown2
        go_wp2
        go_roundw
        case rel =>
          refine ⟨k + 1, by omega, by go_num, ?_, hE4⟩
          rw [Hs.out]
          have := Hown3.out
          rw [Hm.out, HL.out] at this
          simpa [numsOf] using this
        case measure => simp [intOf]; omega
    · have : k = n := by omega
      subst this
      have hle : ((List.range k).filter p).length ≤ k := by have := List.length_filter_le p (List.range k); simpa using this
      have Ho := Lib.hid (owns_ints (l := numsOf ((List.range k).filter p)) (by simpa [numsOf] using hown) (by unfold maxBytes; omega) (fun x hx => by
        unfold numsOf at hx
        rw [List.mem_map] at hx
        obtain ⟨i, hi, rfl⟩ := hx
        have := List.mem_range.1 (List.mem_filter.1 hi).1
        omega))
      clear hown
      go_wp2
      go_ret
      exact ⟨_, rfl, Ho.out, hE.out⟩
theorem enters48 : Enters Tryz.prog 48 := enters_of Tryz.func48 (by kernel_rfl) rfl
def aboveL (n : Nat) (S : List Nat) (a : Nat) : List Nat := (List.range n).filter fun i => (nth S a).testBit i
set_option maxHeartbeats 400000 in
theorem aboveNil19 (a : Int) (w : World) : Calls Tryz.prog 19 #[.pointer none, .int .i64 a] w fun e w' => e = .returned (.tuple #[.slice none 0 0, .int .i64 3]) ∧ Ext w w' := by
  go_enter Tryz.func19, Tryz.ntmps19
  go_wp2_with fail
  refine (askedNil47 _ _ _ _).mono ?_
  rintro e w1 ⟨rfl, hE⟩
  have HE := Lib.hid hE; clear hE
  go_wp2_with fail
  go_ret2
  exact ⟨rfl, by (repeat (first | exact Ext.refl _ | (refine Ext.trans ?_ (Hid.out (by assumption))) | (refine Ext.trans ?_ (Ext.alloc _ _)) | (refine Ext.trans ?_ (Ext.drew _)) | (refine below_drewN ?_ _)))⟩
set_option maxHeartbeats 400000 in
set_option maxRecDepth 100000 in
theorem above19 (vb : Nat) (g : List Ty) (C : Nat → Nat) (rs : List Reveal) (S : List Nat) (gv cv rv av : Value) (hn : g.length ≤ 400) (hS : S.length = g.length) (a : Int) (w : World) (hv : EnvW w vb g C rs S gv cv rv av)
    (hx : -9223372036854775808 ≤ a ∧ a ≤ 9223372036854775807) :
    Calls Tryz.prog 19 #[.pointer (some ⟨vb, 0, none⟩), .int .i64 a] w fun e w' =>
      (askedR g.length [a] = 0 ∧ ∃ v, e = .returned (.tuple #[v, .int .i64 0]) ∧ Ints w' v (numsOf (aboveL g.length S a.toNat)) ∧ Ext w w') ∨
      (askedR g.length [a] = 1 ∧ e = .returned (.tuple #[.slice none 0 0, .int .i64 1]) ∧ Ext w w') := by
  have hE0 := Ext.alloc w (.cells #[.int .i64 a] 3)
  have hl := ints_one w a hx
  obtain ⟨ga, gc, rfl, _⟩ := id hv.gr
  have hcall := Lib.hid (asked47 vb ga g.length gc hn _ 1 1 [a] _ (hE0.cell hv.c0) hl)
  have HE0 := Lib.hid hE0; clear hE0 hl
  have Hv := Lib.hid hv; clear hv
  rcases askedR_cases g.length [a] with ⟨h0, hin⟩ | ⟨h0, _⟩
  · have H0 := Lib.hid h0
    rw [h0] at hcall
    have h1 := hin a (by simp)
    obtain ⟨an, rfl⟩ : ∃ an : Nat, a = an := ⟨a.toNat, (Int.toNat_of_nonneg h1.1).symm⟩
    have hal : an < S.length := by omega
    clear h0 hin h1 hS
    go_enter Tryz.func19, Tryz.ntmps19
    go_wp2_with fail
    refine hcall.out.mono ?_
    rintro e w1 ⟨rfl, hE⟩
    have hv1 := EnvW.mono (HE0.out.trans hE) Hv.out
    have HE := Lib.hid (HE0.out.trans hE); clear hE
    have c0 := hv1.c0
    have c4 := hv1.c4
    have hab := hv1.ab
    obtain ⟨aa, ac, rfl, _⟩ := id hab
    obtain ⟨sb, so, rfl, hsl, hbits⟩ := BitsW.at hab hal
    have hbd := (SlW.bound hab).2
    have Hbits := Lib.hid hbits
    clear hv1 hab hbits
    go_upto_region 4 with (fail)
    refine wp_region_E 99 (by kernel_rfl) ?_
    change wpE _ _ _ _ _ _ _ _ (World.drew _)
    refine tE (i := 0) (v := ?_) (fun w9 hE => ?_) ?_
    rotate_left
    · clear hE; first | (go_simp; done) | (go_simp; with_reducible rfl)
    simp only [Act.put, nm]
    refine tE (i := 1) (v := ?_) (fun w9 hE => ?_) ?_
    rotate_left
    · clear hE; first | (go_simp; done) | (go_simp; with_reducible rfl)
    simp only [Act.put, nm]
    refine tE (i := 2) (v := ?_) (fun w9 hE => ?_) ?_
    rotate_left
    · clear hE; first | (go_simp; done) | (go_simp; with_reducible rfl)
    simp only [Act.put, nm]
    refine tE (i := 3) (v := ?_) (fun w9 hE => ?_) ?_
    rotate_left
    · clear hE; first | (go_simp; done) | (go_simp; with_reducible rfl)
    simp only [Act.put, nm]
    refine tE (i := 4) (v := ?_) (fun w9 hE => ?_) ?_
    rotate_left
    · have c0E := hE.cell c0; clear hE; first | (go_simp; done) | (go_simp; with_reducible rfl)
    simp only [Act.put, nm]
    refine tE (i := 5) (v := ?_) (fun w9 hE => ?_) ?_
    rotate_left
    · clear hE; first | (go_simp; done) | (go_simp; with_reducible rfl)
    simp only [Act.put, nm]
    refine tE (i := 6) (v := ?_) (fun w9 hE => ?_) ?_
    rotate_left
    · clear hE; first | (go_simp; done) | (go_simp; with_reducible rfl)
    simp only [Act.put, nm]
    refine tE (i := 7) (v := ?_) (fun w9 hE => ?_) ?_
    rotate_left
    · clear hE; first | (go_simp; done) | (go_simp; with_reducible rfl)
    simp only [Act.put, nm]
    refine tE (i := 8) (v := ?_) (fun w9 hE => ?_) ?_
    rotate_left
    · have c4E := hE.cell c4; clear hE; first | (go_simp; done) | (go_simp; with_reducible rfl)
    simp only [Act.put, nm]
    refine tE (i := 9) (v := ?_) (fun w9 hE => ?_) ?_
    rotate_left
    · clear hE; first | (go_simp; done) | (go_simp; with_reducible rfl)
    simp only [Act.put, nm]
    refine tE (i := 10) (v := ?_) (fun w9 hE => ?_) ?_
    rotate_left
    · clear hE; first | (go_simp; done) | (go_simp; with_reducible rfl)
    simp only [Act.put, nm]
    refine tE (i := 11) (v := ?_) (fun w9 hE => ?_) ?_
    rotate_left
    · clear hE; first | (go_simp; done) | (go_simp; with_reducible rfl)
    simp only [Act.put, nm]
    refine wpE_only (i := 12) rfl (by kernel_rfl) (by kernel_rfl) (fun K hK => ?_)
    go_simp
    refine (list50 48 enters48 #[.pointer (some ⟨sb, so + an * 7, none⟩)] #[] ga g.length gc hn (fun i => (nth S an).testBit i) _ (fun k w2 hk hE => (has48 sb _ _ k (by omega) w2 (BitsAt.mono ((Ext.drew _).trans hE) Hbits.out)).mono (fun e w3 h => ⟨h.1, by rw [h.2]; exact Ext.refl _⟩))).mono ?_
    rintro e w2 ⟨v, rfl, hi, hE⟩
    have Hi := Lib.hid hi; clear hi
    have HE2 := Lib.hid (HE.out.trans ((Ext.drew _).trans hE))
    refine hK _ _ (hE) ?_; clear hK K
    clear hE
    refine tE (i := 13) (v := ?_) (fun w9 hE => ?_) ?_
    rotate_left
    · clear hE; first | (go_simp; done) | (go_simp; with_reducible rfl)
    simp only [Act.put, nm]
    refine tE (i := 14) (v := ?_) (fun w9 hE => ?_) ?_
    rotate_left
    · clear hE; first | (go_simp; done) | (go_simp; with_reducible rfl)
    simp only [Act.put, nm]
    refine wpE_done (by kernel_rfl) (by kernel_rfl) ?_
    go_wp2_with fail
    go_ret2
    exact Or.inl ⟨H0.out, v, rfl, by simpa [aboveL] using Hi.out, HE2.out⟩
  · have H0 := Lib.hid h0
    rw [h0] at hcall
    clear h0
    go_enter Tryz.func19, Tryz.ntmps19
    go_wp2_with fail
    refine hcall.out.mono ?_
    rintro e w1 ⟨rfl, hE⟩
    have HE := Lib.hid (HE0.out.trans hE); clear hE
    go_wp2_with fail
    go_ret2
    exact Or.inr ⟨H0.out, rfl, HE.out⟩
end Go.Proofs.YtjffkeoajkhbmaaGreat

namespace Go.Proofs.YtjffkeoajkhbmaaGreat
open Go.RowKit Go.Proofs
set_option linter.unusedSimpArgs false
set_option maxHeartbeats 400000 in
set_option maxRecDepth 100000 in
theorem join51 (b3 b4 b5 vb : Nat) (av : Value) (n a b t : Nat) (S : List Nat) (ha : a < S.length) (hb : b < S.length) (ht : t < 448) (w : World)
    (h3 : w.cell? ⟨b3, 0, none⟩ = some (.pointer (some ⟨vb, 0, none⟩))) (h4 : w.cell? ⟨b4, 0, none⟩ = some (.int .i64 a)) (h5 : w.cell? ⟨b5, 0, none⟩ = some (.int .i64 b))
    (c4 : w.cell? ⟨vb, 4, none⟩ = some av) (hab : BitsW w av S) :
    Calls Tryz.prog 51 #[.int .i64 t, .pointer (some ⟨b3, 0, none⟩), .pointer (some ⟨b4, 0, none⟩), .pointer (some ⟨b5, 0, none⟩)] w fun e w' => e = .returned (.bool ((nth S a).testBit t && (nth S b).testBit t)) ∧ Ext w w' := by
  obtain ⟨aa, ac, rfl, _⟩ := id hab
  obtain ⟨sb, so, hao, hsl, hba⟩ := BitsW.at hab ha
  obtain ⟨sb2, so2, hbo, _, hbb⟩ := BitsW.at hab hb
  cases hao
  cases hbo
  have hbd := (SlW.bound hab).2
  have Ha := Lib.hid hba; clear hba
  have Hb := Lib.hid hbb; clear hbb hab
  go_enter Tryz.func51, Tryz.ntmps51
  go_upto_region 1 with (fail)
  refine wp_region_E 99 (by kernel_rfl) ?_
  change wpE _ _ _ _ _ _ _ _ (World.drew _)
  refine tE (i := 0) (v := ?_) (fun w9 hE => ?_) ?_
  rotate_left
  · have h3E := hE.cell h3; clear hE; first | (go_simp; done) | (go_simp; with_reducible rfl)
  simp only [Act.put, nm]
  refine tE (i := 1) (v := ?_) (fun w9 hE => ?_) ?_
  rotate_left
  · clear hE; first | (go_simp; done) | (go_simp; with_reducible rfl)
  simp only [Act.put, nm]
  refine tE (i := 2) (v := ?_) (fun w9 hE => ?_) ?_
  rotate_left
  · clear hE; first | (go_simp; done) | (go_simp; with_reducible rfl)
  simp only [Act.put, nm]
  refine tE (i := 3) (v := ?_) (fun w9 hE => ?_) ?_
  rotate_left
  · have c4E := hE.cell c4; clear hE; first | (go_simp; done) | (go_simp; with_reducible rfl)
  simp only [Act.put, nm]
  refine tE (i := 4) (v := ?_) (fun w9 hE => ?_) ?_
  rotate_left
  · have h4E := hE.cell h4; clear hE; first | (go_simp; done) | (go_simp; with_reducible rfl)
  simp only [Act.put, nm]
  refine tE (i := 5) (v := ?_) (fun w9 hE => ?_) ?_
  rotate_left
  · clear hE; first | (go_simp; done) | (go_simp; with_reducible rfl)
  simp only [Act.put, nm]
  refine tE (i := 6) (v := ?_) (fun w9 hE => ?_) ?_
  rotate_left
  · clear hE; first | (go_simp; done) | (go_simp; with_reducible rfl)
  simp only [Act.put, nm]
  refine wpE_only (i := 7) rfl (by kernel_rfl) (by kernel_rfl) (fun K hK => ?_)
  go_simp
  refine (has48 _ _ _ _ ht _ (BitsAt.mono (Ext.drew _) Ha.out)).mono ?_
  rintro e w2 ⟨rfl, rfl⟩
  refine hK _ _ (Ext.refl _) ?_; clear hK K
  have h3 := (Ext.drew w).cell h3
  have h5 := (Ext.drew w).cell h5
  have c4 := (Ext.drew w).cell c4
  cases hv : (nth S a).testBit t
  ·
    refine tE (i := 8) (v := ?_) (fun w9 hE => ?_) ?_
    rotate_left
    · clear hE; first | (go_simp; done) | (go_simp; with_reducible rfl)
    simp only [Act.put, nm]
    refine wpE_take (i := 9) (v := undef) rfl (by kernel_rfl) (by kernel_rfl) (by kernel_rfl) (fun _ _ _ h => h) (Or.inr ⟨by kernel_rfl, rfl⟩) ?_
    simp only [Act.put, nm]
    refine wpE_take (i := 10) (v := undef) rfl (by kernel_rfl) (by kernel_rfl) (by kernel_rfl) (fun _ _ _ h => h) (Or.inr ⟨by kernel_rfl, rfl⟩) ?_
    simp only [Act.put, nm]
    refine wpE_take (i := 11) (v := undef) rfl (by kernel_rfl) (by kernel_rfl) (by kernel_rfl) (fun _ _ _ h => h) (Or.inr ⟨by kernel_rfl, rfl⟩) ?_
    simp only [Act.put, nm]
    refine wpE_take (i := 12) (v := undef) rfl (by kernel_rfl) (by kernel_rfl) (by kernel_rfl) (fun _ _ _ h => h) (Or.inr ⟨by kernel_rfl, rfl⟩) ?_
    simp only [Act.put, nm]
    refine wpE_take (i := 13) (v := undef) rfl (by kernel_rfl) (by kernel_rfl) (by kernel_rfl) (fun _ _ _ h => h) (Or.inr ⟨by kernel_rfl, rfl⟩) ?_
    simp only [Act.put, nm]
    refine wpE_take (i := 14) (v := undef) rfl (by kernel_rfl) (by kernel_rfl) (by kernel_rfl) (fun _ _ _ h => h) (Or.inr ⟨by kernel_rfl, rfl⟩) ?_
    simp only [Act.put, nm]
    refine wpE_take (i := 15) (v := undef) rfl (by kernel_rfl) (by kernel_rfl) (by kernel_rfl) (fun _ _ _ h => h) (Or.inr ⟨by kernel_rfl, rfl⟩) ?_
    simp only [Act.put, nm]
    refine wpE_take (i := 16) (v := undef) rfl (by kernel_rfl) (by kernel_rfl) (by kernel_rfl) (fun _ _ _ h => h) (Or.inr ⟨by kernel_rfl, rfl⟩) ?_
    simp only [Act.put, nm]
    refine tE (i := 17) (v := ?_) (fun w9 hE => ?_) ?_
    rotate_left
    · clear hE; first | (go_simp; done) | (go_simp; with_reducible rfl)
    simp only [Act.put, nm]
    refine tE (i := 18) (v := ?_) (fun w9 hE => ?_) ?_
    rotate_left
    · clear hE; first | (go_simp; done) | (go_simp; with_reducible rfl)
    simp only [Act.put, nm]
    refine wpE_done (by kernel_rfl) (by kernel_rfl) ?_
    go_wp2_with fail
    go_ret
    exact ⟨ret_bool (by rw [hv]; rfl), Ext.drew _⟩
  ·
    refine tE (i := 8) (v := ?_) (fun w9 hE => ?_) ?_
    rotate_left
    · clear hE; first | (go_simp; done) | (go_simp; with_reducible rfl)
    simp only [Act.put, nm]
    refine tE (i := 9) (v := ?_) (fun w9 hE => ?_) ?_
    rotate_left
    · have h3E := hE.cell h3; clear hE; first | (go_simp; done) | (go_simp; with_reducible rfl)
    simp only [Act.put, nm]
    refine tE (i := 10) (v := ?_) (fun w9 hE => ?_) ?_
    rotate_left
    · clear hE; first | (go_simp; done) | (go_simp; with_reducible rfl)
    simp only [Act.put, nm]
    refine tE (i := 11) (v := ?_) (fun w9 hE => ?_) ?_
    rotate_left
    · clear hE; first | (go_simp; done) | (go_simp; with_reducible rfl)
    simp only [Act.put, nm]
    refine tE (i := 12) (v := ?_) (fun w9 hE => ?_) ?_
    rotate_left
    · have c4E := hE.cell c4; clear hE; first | (go_simp; done) | (go_simp; with_reducible rfl)
    simp only [Act.put, nm]
    refine tE (i := 13) (v := ?_) (fun w9 hE => ?_) ?_
    rotate_left
    · have h5E := hE.cell h5; clear hE; first | (go_simp; done) | (go_simp; with_reducible rfl)
    simp only [Act.put, nm]
    refine tE (i := 14) (v := ?_) (fun w9 hE => ?_) ?_
    rotate_left
    · clear hE; first | (go_simp; done) | (go_simp; with_reducible rfl)
    simp only [Act.put, nm]
    refine tE (i := 15) (v := ?_) (fun w9 hE => ?_) ?_
    rotate_left
    · clear hE; first | (go_simp; done) | (go_simp; with_reducible rfl)
    simp only [Act.put, nm]
    refine wpE_only (i := 16) rfl (by kernel_rfl) (by kernel_rfl) (fun K hK => ?_)
    go_simp
    refine (has48 _ _ _ _ ht _ (BitsAt.mono (Ext.drew _) Hb.out)).mono ?_
    rintro e w2 ⟨rfl, rfl⟩
    refine hK _ _ (Ext.refl _) ?_; clear hK K
    refine tE (i := 17) (v := ?_) (fun w9 hE => ?_) ?_
    rotate_left
    · clear hE; first | (go_simp; done) | (go_simp; with_reducible rfl)
    simp only [Act.put, nm]
    refine tE (i := 18) (v := ?_) (fun w9 hE => ?_) ?_
    rotate_left
    · clear hE; first | (go_simp; done) | (go_simp; with_reducible rfl)
    simp only [Act.put, nm]
    refine wpE_done (by kernel_rfl) (by kernel_rfl) ?_
    go_wp2_with fail
    go_ret
    exact ⟨ret_bool (by rw [hv, Bool.true_and]), Ext.drew _⟩
theorem enters51 : Enters Tryz.prog 51 := enters_of Tryz.func51 (by kernel_rfl) rfl
set_option maxHeartbeats 400000 in
set_option maxRecDepth 100000 in
theorem join53 (b3 b4 vb : Nat) (av : Value) (a t : Nat) (S : List Nat) (ha : a < S.length) (ht : t < 448) (w : World)
    (h3 : w.cell? ⟨b3, 0, none⟩ = some (.pointer (some ⟨vb, 0, none⟩))) (h4 : w.cell? ⟨b4, 0, none⟩ = some (.int .i64 a))
    (c4 : w.cell? ⟨vb, 4, none⟩ = some av) (hab : BitsW w av S) :
    Calls Tryz.prog 53 #[.int .i64 t, .pointer (some ⟨b3, 0, none⟩), .pointer (some ⟨b4, 0, none⟩)] w fun e w' => e = .returned (.bool (!(nth S a).testBit t)) ∧ Ext w w' := by
  obtain ⟨aa, ac, rfl, _⟩ := id hab
  obtain ⟨sb, so, rfl, hsl, hba⟩ := BitsW.at hab ha
  have hbd := (SlW.bound hab).2
  have Ha := Lib.hid hba; clear hba hab
  go_enter Tryz.func53, Tryz.ntmps53
  go_upto_region 1 with (fail)
  refine wp_region_E 99 (by kernel_rfl) ?_
  change wpE _ _ _ _ _ _ _ _ (World.drew _)
  refine tE (i := 0) (v := ?_) (fun w9 hE => ?_) ?_
  rotate_left
  · have h3E := hE.cell h3; clear hE; first | (go_simp; done) | (go_simp; with_reducible rfl)
  simp only [Act.put, nm]
  refine tE (i := 1) (v := ?_) (fun w9 hE => ?_) ?_
  rotate_left
  · clear hE; first | (go_simp; done) | (go_simp; with_reducible rfl)
  simp only [Act.put, nm]
  refine tE (i := 2) (v := ?_) (fun w9 hE => ?_) ?_
  rotate_left
  · clear hE; first | (go_simp; done) | (go_simp; with_reducible rfl)
  simp only [Act.put, nm]
  refine tE (i := 3) (v := ?_) (fun w9 hE => ?_) ?_
  rotate_left
  · have c4E := hE.cell c4; clear hE; first | (go_simp; done) | (go_simp; with_reducible rfl)
  simp only [Act.put, nm]
  refine tE (i := 4) (v := ?_) (fun w9 hE => ?_) ?_
  rotate_left
  · have h4E := hE.cell h4; clear hE; first | (go_simp; done) | (go_simp; with_reducible rfl)
  simp only [Act.put, nm]
  refine tE (i := 5) (v := ?_) (fun w9 hE => ?_) ?_
  rotate_left
  · clear hE; first | (go_simp; done) | (go_simp; with_reducible rfl)
  simp only [Act.put, nm]
  refine tE (i := 6) (v := ?_) (fun w9 hE => ?_) ?_
  rotate_left
  · clear hE; first | (go_simp; done) | (go_simp; with_reducible rfl)
  simp only [Act.put, nm]
  refine wpE_only (i := 7) rfl (by kernel_rfl) (by kernel_rfl) (fun K hK => ?_)
  go_simp
  refine (has48 _ _ _ _ ht _ (BitsAt.mono (Ext.drew _) Ha.out)).mono ?_
  rintro e w2 ⟨rfl, rfl⟩
  refine hK _ _ (Ext.refl _) ?_; clear hK K
  refine tE (i := 8) (v := ?_) (fun w9 hE => ?_) ?_
  rotate_left
  · clear hE; first | (go_simp; done) | (go_simp; with_reducible rfl)
  simp only [Act.put, nm]
  refine tE (i := 9) (v := ?_) (fun w9 hE => ?_) ?_
  rotate_left
  · clear hE; first | (go_simp; done) | (go_simp; with_reducible rfl)
  simp only [Act.put, nm]
  refine wpE_done (by kernel_rfl) (by kernel_rfl) ?_
  go_wp2_with fail
  go_ret
  exact ⟨rfl, Ext.drew _⟩
theorem enters53 : Enters Tryz.prog 53 := enters_of Tryz.func53 (by kernel_rfl) rfl
def commonL (n : Nat) (S : List Nat) (a b : Nat) : List Nat := (List.range n).filter fun i => (nth S a).testBit i && (nth S b).testBit i
def joinL (n : Nat) (S : List Nat) (a b : Nat) : Option Nat := (commonL n S a b).find? fun t => (commonL n S a b).all fun u => (nth S t).testBit u
def joinR (n : Nat) (S : List Nat) (a b : Int) : Int × Bool × Int :=
  if askedR n [a, b] = 0 then (match joinL n S a.toNat b.toNat with | some t => ((t : Int), true, 0) | none => (0, false, 0)) else (0, false, 1)
theorem common_mem {n : Nat} {S : List Nat} {a b i : Nat} (h : i ∈ commonL n S a b) : i < n := by
  unfold commonL at h
  exact List.mem_range.1 (List.mem_filter.1 h).1
theorem common_len (n : Nat) (S : List Nat) (a b : Nat) : (commonL n S a b).length ≤ n := by
  have := List.length_filter_le (fun i => (nth S a).testBit i && (nth S b).testBit i) (List.range n)
  simpa [commonL] using this
theorem nth_nums {l : List Nat} {k : Nat} (h : k < l.length) : nth (numsOf l) k = ((nth l k : Nat) : Int) := by
  rw [nth_eq (by simpa [numsOf] using h), nth_eq h]
  simp [numsOf]
theorem find_nth_some {l : List Nat} {p : Nat → Bool} {k : Nat} (hk : k < l.length) (h1 : p (nth l k) = true) (h : ∀ j, j < k → p (nth l j) = false) : l.find? p = some (nth l k) := by
  rw [List.find?_eq_some_iff_getElem]
  exact ⟨h1, k, hk, (nth_eq hk).symm, fun j hj => by rw [← nth_eq (by omega)]; simp [h j hj]⟩
theorem find_nth_none {l : List Nat} {p : Nat → Bool} (h : ∀ j, j < l.length → p (nth l j) = false) : l.find? p = none := by
  rw [List.find?_eq_none]
  intro x hx
  obtain ⟨i, hi, rfl⟩ := List.getElem_of_mem hx
  rw [← nth_eq hi, h i hi]; simp
set_option maxHeartbeats 400000 in
theorem joinNil21 (a b : Int) (w : World) : Calls Tryz.prog 21 #[.pointer none, .int .i64 a, .int .i64 b] w fun e w' => e = .returned (.tuple #[.int .i64 0, .bool false, .int .i64 3]) ∧ Ext w w' := by
  go_enter Tryz.func21, Tryz.ntmps21
  go_wp2_with fail
  refine (askedNil47 _ _ _ _).mono ?_
  rintro e w1 ⟨rfl, hE⟩
  have HE := Lib.hid hE; clear hE
  go_wp2_with fail
  go_ret3
  exact ⟨rfl, by (repeat (first | exact Ext.refl _ | (refine Ext.trans ?_ (Hid.out (by assumption))) | (refine Ext.trans ?_ (Ext.alloc _ _)) | (refine Ext.trans ?_ (Ext.drew _)) | (refine below_drewN ?_ _)))⟩
set_option maxHeartbeats 1000000 in
set_option maxRecDepth 100000 in
theorem join21 (vb : Nat) (g : List Ty) (C : Nat → Nat) (rs : List Reveal) (S : List Nat) (gv cv rv av : Value) (hn : g.length ≤ 400) (hS : S.length = g.length) (a b : Int) (w : World) (hv : EnvW w vb g C rs S gv cv rv av)
    (hx : -9223372036854775808 ≤ a ∧ a ≤ 9223372036854775807) (hy : -9223372036854775808 ≤ b ∧ b ≤ 9223372036854775807) :
    Calls Tryz.prog 21 #[.pointer (some ⟨vb, 0, none⟩), .int .i64 a, .int .i64 b] w fun e w' =>
      e = .returned (.tuple #[.int .i64 (joinR g.length S a b).1, .bool (joinR g.length S a b).2.1, .int .i64 (joinR g.length S a b).2.2]) ∧ Ext w w' := by
  obtain ⟨ga, gc, rfl, _⟩ := id hv.gr
  go_enter Tryz.func21, Tryz.ntmps21
  go_upto_region 1 with (fail)
  obtain ⟨W, hW⟩ : ∃ W : World, W = ((w.alloc (.cells #[.pointer (some ⟨vb, 0, none⟩)] 28)).alloc (.cells #[.int .i64 a] 3)).alloc (.cells #[.int .i64 b] 3) := ⟨_, rfl⟩
  have hEW : Ext w W := by rw [hW]; exact by (repeat (first | exact Ext.refl _ | (refine Ext.trans ?_ (Hid.out (by assumption))) | (refine Ext.trans ?_ (Ext.alloc _ _)) | (refine Ext.trans ?_ (Ext.drew _)) | (refine below_drewN ?_ _)))
  have h3 : W.cell? ⟨w.heap.size, 0, none⟩ = some (.pointer (some ⟨vb, 0, none⟩)) := by rw [hW]; exact (Ext.alloc _ _).cell ((Ext.alloc _ _).cell (cell_new1 _ _ _))
  have h4 : W.cell? ⟨w.heap.size + 1, 0, none⟩ = some (.int .i64 a) := by rw [hW]; exact (Ext.alloc _ _).cell (by have := cell_new1 (w.alloc (.cells #[.pointer (some ⟨vb, 0, none⟩)] 28)) (.int .i64 a) 3; rwa [World.size_alloc] at this)
  have h5 : W.cell? ⟨w.heap.size + 1 + 1, 0, none⟩ = some (.int .i64 b) := by
    rw [hW]; have := cell_new1 ((w.alloc (.cells #[.pointer (some ⟨vb, 0, none⟩)] 28)).alloc (.cells #[.int .i64 a] 3)) (.int .i64 b) 3; rwa [World.size_alloc, World.size_alloc] at this
  rw [← hW]
  clear hW
  have hlb : w.heap.size + 1 + 1 < W.heap.size := cell_lt h5
  have hcall := Lib.hid (asked47 vb ga g.length gc hn _ 2 2 [a, b] _ ((hEW.trans (Ext.alloc _ _)).cell hv.c0) (ints_two W a b hx hy))
  have Hv := Lib.hid hv; clear hv
  have HEW := Lib.hid hEW; clear hEW
  rcases askedR_cases g.length [a, b] with ⟨h0, hin⟩ | ⟨h0, _⟩
  · rw [h0] at hcall
    have h1 := hin a (by simp)
    have h2 := hin b (by simp)
    obtain ⟨an, rfl⟩ : ∃ an : Nat, a = an := ⟨a.toNat, (Int.toNat_of_nonneg h1.1).symm⟩
    obtain ⟨bn, rfl⟩ : ∃ bn : Nat, b = bn := ⟨b.toNat, (Int.toNat_of_nonneg h2.1).symm⟩
    have Hs1 := Lib.hid (show ∀ k, k < (commonL g.length S an bn).length → ((commonL g.length S an bn).all fun u => (nth S (nth (commonL g.length S an bn) k)).testBit u) = true →
        (∀ j, j < k → ((commonL g.length S an bn).all fun u => (nth S (nth (commonL g.length S an bn) j)).testBit u) = false) → joinR g.length S an bn = (((nth (commonL g.length S an bn) k : Nat) : Int), true, 0) from fun k hk h1 h2 => by
      unfold joinR
      rw [if_pos h0]
      simp only [Int.toNat_natCast, joinL]
      rw [find_nth_some (p := fun t => (commonL g.length S an bn).all fun u => (nth S t).testBit u) hk h1 h2])
    have Hs2 := Lib.hid (show (∀ j, j < (commonL g.length S an bn).length → ((commonL g.length S an bn).all fun u => (nth S (nth (commonL g.length S an bn) j)).testBit u) = false) → joinR g.length S an bn = (0, false, 0) from fun h2 => by
      unfold joinR
      rw [if_pos h0]
      simp only [Int.toNat_natCast, joinL]
      rw [find_nth_none (p := fun t => (commonL g.length S an bn).all fun u => (nth S t).testBit u) h2])
    have hal : an < S.length := by omega
    have hbl : bn < S.length := by omega
    clear h0 hin h1 h2
    go_wp2_with fail
    refine hcall.out.mono ?_
    rintro e w1 ⟨rfl, hE⟩
    have hE' := (Ext.alloc W (.cells #[.int .i64 an, .int .i64 bn] 3)).trans hE
    have hv1 := EnvW.mono (HEW.out.trans hE') Hv.out
    have h3 := hE'.cell h3
    have h4 := hE'.cell h4
    have h5 := hE'.cell h5
    have HE := Lib.hid (HEW.out.trans hE'); clear hE hE'
    have c0 := hv1.c0
    have Hv1 := Lib.hid hv1; clear hv1
    go_wp2_with fail
    refine (list50 51 enters51 #[] #[.pointer (some ⟨w.heap.size, 0, none⟩), .pointer (some ⟨w.heap.size + 1, 0, none⟩), .pointer (some ⟨w.heap.size + 1 + 1, 0, none⟩)] ga g.length gc hn (fun i => (nth S an).testBit i && (nth S bn).testBit i) w1
      (fun k w2 hk hE => join51 _ _ _ vb av g.length an bn k S hal hbl (by omega) w2 (hE.cell h3) (hE.cell h4) (hE.cell h5) (hE.cell Hv1.out.c4) (BitsW.mono hE Hv1.out.ab))).mono ?_
    rintro e w2 ⟨v, rfl, hi, hE⟩
    have hi : Ints w2 v (numsOf (commonL g.length S an bn)) := hi
    have h3 := hE.cell h3
    have Hv2 := Lib.hid (EnvW.mono hE Hv1.out)
    have HE2 := Lib.hid (HE.out.trans hE); clear hE
    obtain ⟨ca, cc, rfl, _⟩ := id hi
    have hbd := (SlW.bound hi).2
    have hlen : (numsOf (commonL g.length S an bn)).length = (commonL g.length S an bn).length := by simp [numsOf]
    have hcl := common_len g.length S an bn
    rw [hlen] at hbd hi ⊢
    have Hi := Lib.hid hi; clear hi hlen
    have Hmem := Lib.hid (show ∀ i, i < (commonL g.length S an bn).length → nth (commonL g.length S an bn) i < g.length from fun i hi => common_mem (nth_mem hi))
    obtain ⟨L, hL⟩ : ∃ L, L = commonL g.length S an bn := ⟨_, rfl⟩
    rw [← hL] at hbd hcl Hi Hmem Hs1 Hs2 ⊢
    have HL := Lib.hid hL; clear hL
    go_upto_region 6 with (fail)
    go_loopw [12, 30] (fun _ i wr => ∃ k : Nat, k ≤ L.length ∧ i = .int .i64 k ∧ Hid (Ext w2 wr ∧ ∀ j, j < k → (L.all fun u => (nth S (nth L j)).testBit u) = false)) (fun _ i _ => L.length - (intOf i).toNat)
    case atStart => exact ⟨0, Nat.zero_le _, rfl, Ext.refl _, fun j hj => absurd hj (Nat.not_lt_zero _)⟩
    case round =>
      obtain ⟨k, hk, rfl, hH⟩ := hrel
      have HE3 := Lib.hid hH.out.1
      have Hno := Lib.hid hH.out.2
      clear hH
      by_cases hlt : k < L.length
      · have hi := Ints.mono HE3.out Hi.out
        have h3r := HE3.out.cell h3
        obtain ⟨lb, lo, hlo, hll, d0, _⟩ := Ints.at hi hlt
        rw [nth_nums hlt] at d0
        have hmk := Hmem.out k hlt
        have hcf := Lib.hid (containsFunc52_p 53 enters53 #[.pointer (some ⟨w.heap.size, 0, none⟩), .pointer (some ⟨wr.heap.size, 0, none⟩)] ca L.length cc (by omega) (fun j _ => .int .i64 ((nth L j : Nat) : Int)) (wr.alloc (.cells #[.int .i64 ((nth L k : Nat) : Int)] 3)) (fun j => !(nth S (nth L k)).testBit (nth L j))
          (fun w4 hE4 j hj => by
            obtain ⟨b, off, ha, _, hc, _⟩ := Ints.at (Ints.mono ((Ext.alloc _ _).trans hE4) hi) hj
            rw [nth_nums hj] at hc
            exact ⟨b, off, ha, hc⟩)
          (fun j w4 hj hE4 => join53 _ _ vb av (nth L k) (nth L j) S (by omega) (by have := Hmem.out j hj; omega) w4 (((Ext.alloc _ _).trans hE4).cell h3r) (hE4.cell (cell_new1 _ _ _))
            (((HE3.out.trans (Ext.alloc _ _)).trans hE4).cell Hv2.out.c4) (BitsW.mono ((HE3.out.trans (Ext.alloc _ _)).trans hE4) Hv2.out.ab)))
        have hall : (!(List.range L.length).any fun j => !(nth S (nth L k)).testBit (nth L j)) = L.all fun u => (nth S (nth L k)).testBit u := by
          rw [any_range L (fun u => !(nth S (nth L k)).testBit u), List.not_any_eq_all_not]; simp
        subst hlo
        clear hi
        cases hany : (List.range L.length).any fun j => !(nth S (nth L k)).testBit (nth L j)
        · rw [hany] at hall hcf
          have Hr := Lib.hid (Hs1.out k hlt hall.symm Hno.out)
          clear hany hall
          go_wp2_with fail
          refine hcf.out.mono ?_
          rintro e w4 ⟨rfl, hE4⟩
          have f0 := hE4.cell (cell_new1 wr (.int .i64 ((nth L k : Nat) : Int)) 3)
          have HE4 := Lib.hid ((HE2.out.trans HE3.out).trans ((Ext.alloc _ _).trans hE4)); clear hE4
          go_wp2_with fail
          go_ret3
          exact ⟨by rw [Hr.out]; rfl, HE4.out⟩
        · rw [hany] at hall hcf
          have Hr := Lib.hid hall
          clear hany hall
          go_wp2_with fail
          refine hcf.out.mono ?_
          rintro e w4 ⟨rfl, hE4⟩
          have HE4 := Lib.hid (HE3.out.trans ((Ext.alloc _ _).trans hE4)); clear hE4
          go_wp2_with fail
          go_roundw
          case rel =>
            refine ⟨k + 1, by omega, by go_num, HE4.out, fun j hj => ?_⟩
            by_cases hjk : j = k
            · rw [hjk]; exact Hr.out.symm
            · exact Hno.out j (by omega)
          case measure => simp [intOf]; omega
      · have : k = L.length := by omega
        subst this
        have Hr := Lib.hid (Hs2.out Hno.out)
        go_wp2_with fail
        go_ret3
        exact ⟨by rw [Hr.out]; rfl, HE2.out.trans HE3.out⟩
  · rw [h0] at hcall
    have Hs := Lib.hid (show joinR g.length S a b = (0, false, 1) by unfold joinR; rw [if_neg (by rw [h0]; decide)])
    clear h0
    go_wp2_with fail
    refine hcall.out.mono ?_
    rintro e w1 ⟨rfl, hE⟩
    have HE := Lib.hid (HEW.out.trans ((Ext.alloc _ _).trans hE)); clear hE
    go_wp2_with fail
    go_ret3
    exact ⟨by rw [Hs.out]; rfl, HE.out⟩
end Go.Proofs.YtjffkeoajkhbmaaGreat

namespace Go.Proofs.YtjffkeoajkhbmaaGreat
open Go.RowKit Go.Proofs
set_option linter.unusedSimpArgs false
def isWordB (k : Int) : Bool := k == 1 || k == 2 || k == 3
set_option maxHeartbeats 400000 in
theorem isWord62 (ga : Option Addr) (n gc : Nat) (cv : Value) (g : List Ty) (t : Nat) (w : World) (hg : Graph w (.slice ga n gc) g) (ht : t < n) (hc : ∃ ca cn cc, cv = .slice ca cn cc) :
    Calls Tryz.prog 62 #[.agg #[.slice ga n gc, cv], .int .i64 t] w fun e w' => e = .returned (.bool (isWordB (nth g t).kind)) ∧ Ext w w' := by
  obtain ⟨ca, cn, cc, rfl⟩ := hc
  have hb := (SlW.bound hg).2
  obtain ⟨b, off, pa, pl, pc, ma, ml, mc, oa, ol, oc, rfl, hlt2, hT⟩ := Graph.at hg ht
  have c0 := hT.c0
  clear hT
  have Hg := Lib.hid hg; clear hg
  have Hs := Lib.hid (show isWordB (nth g t).kind = ((nth g t).kind == 1 || (nth g t).kind == 2 || (nth g t).kind == 3) from rfl)
  obtain ⟨k, hk⟩ : ∃ k, k = (nth g t).kind := ⟨_, rfl⟩
  rw [← hk] at c0 Hs ⊢
  clear hk
  cases h1 : (k == 1)
  · cases h2 : (k == 2)
    · cases h3 : (k == 3)
      all_goals go_enter Tryz.func62, Tryz.ntmps62
      all_goals go_wp2
      all_goals go_ret
      all_goals exact ⟨ret_bool (by rw [Hs.out, h1, h2, h3]; rfl), by (repeat (first | exact Ext.refl _ | (refine Ext.trans ?_ (Hid.out (by assumption))) | (refine Ext.trans ?_ (Ext.alloc _ _)) | (refine Ext.trans ?_ (Ext.drew _)) | (refine below_drewN ?_ _)))⟩
    · go_enter Tryz.func62, Tryz.ntmps62
      go_wp2
      go_ret
      exact ⟨ret_bool (by rw [Hs.out, h1, h2]; rfl), by (repeat (first | exact Ext.refl _ | (refine Ext.trans ?_ (Hid.out (by assumption))) | (refine Ext.trans ?_ (Ext.alloc _ _)) | (refine Ext.trans ?_ (Ext.drew _)) | (refine below_drewN ?_ _)))⟩
  · go_enter Tryz.func62, Tryz.ntmps62
    go_wp2
    go_ret
    exact ⟨ret_bool (by rw [Hs.out, h1]; rfl), by (repeat (first | exact Ext.refl _ | (refine Ext.trans ?_ (Hid.out (by assumption))) | (refine Ext.trans ?_ (Ext.alloc _ _)) | (refine Ext.trans ?_ (Ext.drew _)) | (refine below_drewN ?_ _)))⟩
def spanR (t : Ty) : Int × Int × Bool := if t.kind = 1 then (-1000000000, 1000000000, true) else if t.kind = 3 then (t.low, t.high, true) else (0, 0, false)
set_option maxHeartbeats 400000 in
set_option maxRecDepth 100000 in
theorem span61 (vb : Nat) (ga : Option Addr) (n gc : Nat) (g : List Ty) (t : Nat) (w : World) (h0 : w.cell? ⟨vb, 0, none⟩ = some (.slice ga n gc)) (hg : Graph w (.slice ga n gc) g) (ht : t < n) :
    Calls Tryz.prog 61 #[.pointer (some ⟨vb, 0, none⟩), .int .i64 t] w fun e w' => e = .returned (.tuple #[.int .i64 (spanR (nth g t)).1, .int .i64 (spanR (nth g t)).2.1, .bool (spanR (nth g t)).2.2]) ∧ Ext w w' := by
  have hb := (SlW.bound hg).2
  obtain ⟨b, off, pa, pl, pc, ma, ml, mc, oa, ol, oc, rfl, hlt2, hT⟩ := Graph.at hg ht
  obtain ⟨c0, c1, c2, c3, c4, c5, c6, c7, c8, c9, _, _, _, _⟩ := hT
  clear hg
  by_cases h1 : (nth g t).kind = 1
  · have Hs := Lib.hid (show spanR (nth g t) = (-1000000000, 1000000000, true) by unfold spanR; rw [if_pos h1])
    rw [h1] at c0
    clear h1
    go_enter Tryz.func61, Tryz.ntmps61
    go_wp2
    go_ret3
    exact ⟨by rw [Hs.out]; rfl, by (repeat (first | exact Ext.refl _ | (refine Ext.trans ?_ (Hid.out (by assumption))) | (refine Ext.trans ?_ (Ext.alloc _ _)) | (refine Ext.trans ?_ (Ext.drew _)) | (refine below_drewN ?_ _)))⟩
  · have hb1 : ((nth g t).kind == 1) = false := by rw [beq_eq_false_iff_ne]; exact h1
    by_cases h3 : (nth g t).kind = 3
    · have Hs := Lib.hid (show spanR (nth g t) = ((nth g t).low, (nth g t).high, true) by unfold spanR; rw [if_neg h1, if_pos h3])
      rw [h3] at c0
      clear h1 h3 hb1
      go_enter Tryz.func61, Tryz.ntmps61
      go_upto_region 6 with (fail)
      go_quiet (fail)
      go_wp2
      go_ret3
      exact ⟨by rw [Hs.out]; rfl, below_drewN (by exact by (repeat (first | exact Ext.refl _ | (refine Ext.trans ?_ (Hid.out (by assumption))) | (refine Ext.trans ?_ (Ext.alloc _ _)) | (refine Ext.trans ?_ (Ext.drew _)) | (refine below_drewN ?_ _)))) nq⟩
    · have Hs := Lib.hid (show spanR (nth g t) = (0, 0, false) by unfold spanR; rw [if_neg h1, if_neg h3])
      have hb3 : ((nth g t).kind == 3) = false := by rw [beq_eq_false_iff_ne]; exact h3
      clear h1 h3
      go_enter Tryz.func61, Tryz.ntmps61
      go_wp2
      go_ret3
      exact ⟨by rw [Hs.out]; rfl, by (repeat (first | exact Ext.refl _ | (refine Ext.trans ?_ (Hid.out (by assumption))) | (refine Ext.trans ?_ (Ext.alloc _ _)) | (refine Ext.trans ?_ (Ext.drew _)) | (refine below_drewN ?_ _)))⟩
end Go.Proofs.YtjffkeoajkhbmaaGreat
