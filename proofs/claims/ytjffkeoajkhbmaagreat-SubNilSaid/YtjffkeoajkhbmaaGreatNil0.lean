/- The law SubNil, walked. The law SubNil holds: for every input it answers true, and its arguments read as before. -/
import Derived.Test.YtjffkeoajkhbmaaGreatRows
import Derived.ProofKit
import Derived.OpenShut
import Derived.ShutString
import Derived.ChangeOld
import Derived.Below
import Derived.Test.YtjffkeoajkhbmaaGreatM13
import Derived.Test.YtjffkeoajkhbmaaGreatM30
namespace Go.Proofs.YtjffkeoajkhbmaaGreat
open Go.RowKit Go.Proofs Go.Shelf
set_option linter.unusedSimpArgs false
def Holds (w : World) (e : Ending) (w' : World) : Prop := e = .returned (.bool true) ∧ Ext w w'
set_option maxRecDepth 100000 in
set_option maxHeartbeats 4000000 in
theorem subNil11 (a b : Int) (s : BA) (w : World) (hs : s.size ≤ 9223372036854775807) : Calls Tryz.prog 11 #[.int .i64 a, .int .i64 b, .string s] w (Holds w) := by
  by_cases h100 : s.size ≤ 100
  · go_enter Tryz.func11, Tryz.ntmps11
    go_wp2_with fail
    refine (belowNil17 _ _ _).mono ?_
    rintro e w1 ⟨rfl, hE⟩
    have HE := Lib.hid hE
    clear hE
    go_wp2_with fail
    refine (aboveNil19 _ _).mono ?_
    rintro e w2 ⟨rfl, hE⟩
    have HE := Lib.hid (HE.out.trans hE)
    clear hE
    go_wp2_with fail
    refine (deriveNil38 _ _ _).mono ?_
    rintro e w3 ⟨rfl, hE⟩
    have HE := Lib.hid (HE.out.trans hE)
    clear hE
    go_wp2_with fail
    refine (checkDeriveNil36 _ _ _ _ _ _).mono ?_
    rintro e w4 ⟨rfl, hE⟩
    have HE := Lib.hid (HE.out.trans hE)
    clear hE
    go_wp2_with fail
    refine (joinNil21 _ _ _).mono ?_
    rintro e w5 ⟨rfl, hE⟩
    have HE := Lib.hid (HE.out.trans hE)
    clear hE
    go_wp2_with fail
    refine (assignNil28 _ _ _).mono ?_
    rintro e w6 ⟨rfl, hE⟩
    have HE := Lib.hid (HE.out.trans hE)
    clear hE
    go_wp2_with fail
    obtain ⟨w7, hw7⟩ : ∃ w7 : World, w7 = w6.alloc (.cells #[.int .u8 0, .int .i64 0, .int .i64 0] 56) := ⟨_, rfl⟩
    obtain ⟨k6, hk6⟩ : ∃ k6, k6 = w6.heap.size := ⟨_, rfl⟩
    rw [← hw7, ← hk6]
    have hE : Ext w6 w7 := by rw [hw7]; exact Ext.alloc _ _
    have HK := Lib.hid (show w7.heap[k6]? = some (.cells #[.int .u8 0, .int .i64 0, .int .i64 0] 56 (0, 0)) from by rw [hw7, hk6]; exact heap_alloc_new _ _)
    have HE := Lib.hid (HE.out.trans hE)
    clear hE hw7 hk6
    refine (lineNil26 _ _).mono ?_
    rintro e w8 ⟨rfl, hE⟩
    have HE := Lib.hid (HE.out.trans hE)
    have HK := Lib.hid ((hE.block _ (row_lt HK.out)).trans HK.out)
    clear hE
    go_wp2_with fail
    refine (fieldNil31 _ _ _).mono ?_
    rintro e w9 ⟨rfl, hE⟩
    have HE := Lib.hid (HE.out.trans hE)
    have HK := Lib.hid ((hE.block _ (row_lt HK.out)).trans HK.out)
    clear hE
    go_wp2_with fail
    refine (methodNil33 _ _ _).mono ?_
    rintro e w10 ⟨rfl, hE⟩
    have HE := Lib.hid (HE.out.trans hE)
    have HK := Lib.hid ((hE.block _ (row_lt HK.out)).trans HK.out)
    clear hE
    go_wp2_with fail
    obtain ⟨w11, hw11⟩ : ∃ w11 : World, w11 = w10.alloc (.cells #[.int .i64 3, .int .i64 3, .int .i64 3, .int .i64 3, .int .i64 3, .int .i64 3, .int .i64 3, .int .i64 3, .int .i64 3] 32) := ⟨_, rfl⟩
    obtain ⟨k10, hk10⟩ : ∃ k10, k10 = w10.heap.size := ⟨_, rfl⟩
    rw [← hw11, ← hk10]
    have hE : Ext w10 w11 := by rw [hw11]; exact Ext.alloc _ _
    have hr : w11.heap[k10]? = some (.cells #[.int .i64 3, .int .i64 3, .int .i64 3, .int .i64 3, .int .i64 3, .int .i64 3, .int .i64 3, .int .i64 3, .int .i64 3] 32 (0, 0)) := by rw [hw11, hk10]; exact heap_alloc_new _ _
    have HE := Lib.hid (HE.out.trans hE)
    have HK := Lib.hid ((hE.block _ (row_lt HK.out)).trans HK.out)
    have hcell : ∀ k, k < 9 → w11.cell? ⟨k10, k, none⟩ = some (.int .i64 3) := fun k hk => by
      rcases (show k = 0 ∨ k = 1 ∨ k = 2 ∨ k = 3 ∨ k = 4 ∨ k = 5 ∨ k = 6 ∨ k = 7 ∨ k = 8 by omega) with rfl | rfl | rfl | rfl | rfl | rfl | rfl | rfl | rfl <;> exact row_cell hr rfl
    have Hcell := Lib.hid hcell
    clear hE hw11 hk10 hr hcell
    go_loop [31] (fun i => ∃ k : Nat, k ≤ 9 ∧ i = .int .i64 k) (fun i => 9 - (intOf i).toNat)
    case atStart => exact ⟨0, by omega, rfl⟩
    case round =>
      obtain ⟨k, hk, rfl⟩ := hrel
      by_cases hlt : k < 9
      · have hc := Hcell.out k hlt
        go_wp2_with fail
        go_round
        case rel => exact ⟨k + 1, by omega, by go_num⟩
        case measure => simp [intOf]; omega
      · go_wp2_with fail
        refine (ordered15 _).mono ?_
        rintro e w12 ⟨rfl, hE⟩
        have hK := (hE.block _ (row_lt HK.out)).trans HK.out
        have HE := Lib.hid (HE.out.trans hE)
        have k0 := row_cell hK (j := 0) rfl
        have k1 := row_cell hK (j := 1) rfl
        have k2 := row_cell hK (j := 2) rfl
        clear hE hK HK Hcell
        go_wp2_with fail
        go_ret
        exact ⟨rfl, HE.out⟩
  · go_enter Tryz.func11, Tryz.ntmps11
    go_wp2_with fail
    refine (ordered15 _).mono ?_
    rintro e w1 ⟨rfl, hE⟩
    have HE := Lib.hid hE
    clear hE
    go_wp2_with fail
    go_ret
    exact ⟨rfl, HE.out⟩
end Go.Proofs.YtjffkeoajkhbmaaGreat

namespace Go.Proofs.YtjffkeoajkhbmaaGreat
open Go.ChangeShapes Go.WideShapes Go.ChangeAt Go.RowKit Go.Proofs
open Go.ChangeMaps (open_string shut_string)
set_option linter.unusedVariables false
theorem own : ownKnob Tryz.prog.godebug = none := by kernel_rfl
theorem laidOut : laidOutB Tryz.prog = true := by kernel_rfl
set_option maxRecDepth 100000 in
theorem subNil_lifted (os : Os) (started : os.Started) (H : Type) (enc : TypeId × Value → H) :
    ReturnsInHanded {} Tryz.checked os 11 .any (Rows.subNilSpec.pre6 enc Tryz.prog Tryz.f11 Rows.subNilRow.domain false) (Rows.subNilSpec.post enc Tryz.prog Tryz.f11 false true false false) := by
  refine returnsInHanded_of_change (C := Tryz.checked) own started (by kernel_rfl) Tryz.func11
    (ChangeSpec.witness6 (enc := enc) (C := Tryz.checked) false ⟨#[], #[.int .i64 0, .int .i64 0, .string ⟨#[]⟩], []⟩ 8 (by kernel_rfl) (by kernel_rfl) (by kernel_rfl) (by kernel_rfl)) ?_
  intro W base args ds gs before hval0 hW hcnd _
  have hval : ∀ (j : Nat) t v, Tryz.f11.params[j]? = some t → args[j]? = some v → Value.okWide Tryz.prog W .any base t v := hval0
  have hW' := hW
  obtain ⟨p, q, hA0, hV, rfl, hfz, hnd⟩ := hW
  have hA : DataW.TrodAll enc Tryz.prog W 0 (fun _ => true) true Tryz.f11.params.toList args.toList ds p := hA0
  rw [Tryz.params11] at hA hval
  obtain ⟨v0, vs0, d0, ds0, p0, q0, hargs, rfl, rfl, h0, r0⟩ := trodAll_cons hA
  obtain ⟨v1, vs1, d1, ds1, p1, q1, rfl, rfl, rfl, h1, r1⟩ := trodAll_cons r0
  obtain ⟨v2, vs2, d2, ds2, p2, q2, rfl, rfl, rfl, h2, r2⟩ := trodAll_cons r1
  obtain ⟨rfl, rfl, rfl⟩ := trodAll_nil r2
  obtain rfl : args = #[v0, v1, v2] := by cases args; simp_all
  obtain ⟨rfl, rfl⟩ := trodVars_none hV
  obtain ⟨a0, rfl, rfl, rfl, w0⟩ := open_int Tryz.underlying3 (hval 0 3 v0 rfl rfl) h0
  obtain ⟨a1, rfl, rfl, rfl, w1⟩ := open_int Tryz.underlying3 (hval 1 3 v1 rfl rfl) h1
  obtain ⟨a2, rfl, rfl, rfl, w2⟩ := open_string Tryz.underlying9 (hval 2 9 v2 rfl rfl) h2
  clear hA0 hval0
  refine (subNil11 a0 a1 a2 W w2).mono fun e W' ⟨he, bel⟩ => ?_
  subst he
  exact ⟨_, rfl, _, _, _, [], _, [], hW', trodAll_mk1 (shut_bool Tryz.underlying4 _), (trodAll_cons_mk (shut_int Tryz.underlying3 w0) (trodAll_cons_mk (shut_int Tryz.underlying3 w1) (trodAll_cons_mk (shut_string Tryz.underlying9 w2) trodAll_mk0))), rfl, bel.frame _, fun h => by cases h⟩
theorem subNil_over : Rows.subNilRow.holds Tryz.pinned (OpenSpec.ofChange Rows.subNilSpec) :=
  OpenClaim.holds_of_wide 11 Tryz.f11 rfl rfl rfl rfl rfl rfl rfl ⟨rfl, rfl, rfl, rfl, rfl⟩ rfl rfl rfl rfl rfl (by kernel_rfl) Tryz.func11 (by kernel_rfl)
    (of_decide_eq_true (by kernel_rfl)) (by unfold Func.isWrapper; first | (rw [if_pos (by decide +kernel)]; kernel_rfl) | (rw [if_neg (by decide +kernel)]; exact ⟨rfl, rfl⟩))
    (fun os started H enc _ => subNil_lifted os started H enc)
theorem subNil_holds : Rows.SubNilSaid := subNil_over
#print axioms subNil_holds
end Go.Proofs.YtjffkeoajkhbmaaGreat
