/- slices.Equal, slices.EqualFunc. -/
import Derived.Test.YtjffkeoajkhbmaaGreatM5
namespace Go.Proofs.YtjffkeoajkhbmaaGreat
open Go.RowKit Go.Proofs
set_option linter.unusedSimpArgs false
def overEq (x y : Over) : Bool := x.name == y.name && x.proc == y.proc
def partEq (x y : Part) : Bool := x.name == y.name
def methEq (x y : Meth) : Bool :=
  x.name == y.name && x.proc == y.proc && x.sig.args.length == y.sig.args.length && (decide (x.sig.result < 0) == decide (y.sig.result < 0)) && sameB (fun (a b : BA) => a == b) x.sig.raises y.sig.raises
theorem ba_eq_list (a b : BA) : (a == b) = decide (a.toList = b.toList) := by
  rw [beq_toListBytes, Bool.eq_iff_iff]; simp
set_option maxHeartbeats 400000 in
set_option maxRecDepth 100000 in
theorem equal104 (a : Option Addr) (n c : Nat) (b : Option Addr) (m d : Nat) (xs ys : List Int) (w : World) (hx : Ints w (.slice a n c) xs) (hy : Ints w (.slice b m d) ys) :
    Calls Tryz.prog 104 #[.slice a n c, .slice b m d] w fun e w' => e = .returned (.bool (sameB (fun (x y : Int) => x == y) xs ys)) ∧ Ext w w' := by
  have hb1 := (SlW.bound hx).2
  have hb2 := (SlW.bound hy).2
  obtain rfl := SlW.len hx
  obtain rfl := SlW.len hy
  by_cases hl : xs.length = ys.length
  · have hs1 := Lib.hid (show ∀ k, k < xs.length → (fun (x y : Int) => x == y) (nth xs k) (nth ys k) = false → sameB (fun (x y : Int) => x == y) xs ys = false from fun k hk h => sameB_false hl hk h)
    have hs2 := Lib.hid (show (∀ k, k < xs.length → (fun (x y : Int) => x == y) (nth xs k) (nth ys k) = true) → sameB (fun (x y : Int) => x == y) xs ys = true from fun h => sameB_true hl h)
    have Hx := Lib.hid hx; clear hx
    have Hy := Lib.hid hy; clear hy
    have hle : ys.length = xs.length := hl.symm
    rw [hle]
    have HL := Lib.hid hl; clear hl hle
    go_enter Tryz.func104, Tryz.ntmps104
    go_upto_region 4 with (fail)
    go_loopw [5, 13] (fun _ i wr => ∃ k : Nat, k ≤ xs.length ∧ i = .int .i64 k ∧ Hid (Ext w wr ∧ ∀ j, j < k → (fun (x y : Int) => x == y) (nth xs j) (nth ys j) = true)) (fun _ i _ => xs.length - (intOf i).toNat)
    case atStart => exact ⟨0, Nat.zero_le _, rfl, Ext.refl _, fun j hj => absurd hj (Nat.not_lt_zero _)⟩
    case round =>
      obtain ⟨k, hk, rfl, hH⟩ := hrel
      have HE := Lib.hid hH.out.1
      have Hall := Lib.hid hH.out.2
      clear hH
      by_cases hlt : k < xs.length
      · obtain ⟨xb, xo, hxo, hxl, x0, _⟩ := Ints.at (Ints.mono HE.out Hx.out) hlt
        obtain ⟨yb, yo, hyo, hyl, y0, _⟩ := Ints.at (Ints.mono HE.out Hy.out) (show k < ys.length by have := HL.out; omega)
        subst hxo hyo
        cases hq : (fun (x y : Int) => x == y) (nth xs k) (nth ys k)
        · have hr := Lib.hid (hs1.out k hlt hq)
          have hqb : (nth xs k == nth ys k) = false := hq
          all_goals clear hq
          all_goals go_upto_region 6 with (fail)
          all_goals go_quiet (fail)
          all_goals go_wp2_with fail
          all_goals go_ret
          all_goals exact ⟨ret_bool hr.out.symm, below_drewN HE.out nq⟩
        · have hr := Lib.hid hq
          have hqb : (nth xs k == nth ys k) = true := hq
          clear hq
          go_upto_region 6 with (fail)
          go_quiet (fail)
          go_wp2_with fail
          go_roundw
          case rel =>
            refine ⟨k + 1, by omega, by go_num, below_drewN HE.out nq, fun j hj => ?_⟩
            by_cases hjk : j = k
            · rw [hjk]; exact hr.out
            · exact Hall.out j (by omega)
          case measure => simp [intOf]; omega
      · have : k = xs.length := by omega
        subst this
        have hr := Lib.hid (hs2.out Hall.out)
        go_wp2_with fail
        go_ret
        exact ⟨ret_bool hr.out.symm, HE.out⟩
  · have hs := Lib.hid (show sameB (fun (x y : Int) => x == y) xs ys = false from sameB_of_len hl)
    have hne : ((xs.length : Int) == (ys.length : Int)) = false := by rw [beq_eq_false_iff_ne]; omega
    clear hl
    go_enter Tryz.func104, Tryz.ntmps104
    go_wp2_with fail
    go_ret
    exact ⟨ret_bool hs.out.symm, Ext.refl _⟩
set_option maxHeartbeats 400000 in
set_option maxRecDepth 100000 in
theorem equal163 (a : Option Addr) (n c : Nat) (b : Option Addr) (m d : Nat) (xs ys : List BA) (w : World) (hx : Strs w (.slice a n c) xs) (hy : Strs w (.slice b m d) ys) :
    Calls Tryz.prog 163 #[.slice a n c, .slice b m d] w fun e w' => e = .returned (.bool (sameB (fun (x y : BA) => x == y) xs ys)) ∧ Ext w w' := by
  have hb1 := (SlW.bound hx).2
  have hb2 := (SlW.bound hy).2
  obtain rfl := SlW.len hx
  obtain rfl := SlW.len hy
  by_cases hl : xs.length = ys.length
  · have hs1 := Lib.hid (show ∀ k, k < xs.length → (fun (x y : BA) => x == y) (nth xs k) (nth ys k) = false → sameB (fun (x y : BA) => x == y) xs ys = false from fun k hk h => sameB_false hl hk h)
    have hs2 := Lib.hid (show (∀ k, k < xs.length → (fun (x y : BA) => x == y) (nth xs k) (nth ys k) = true) → sameB (fun (x y : BA) => x == y) xs ys = true from fun h => sameB_true hl h)
    have Hx := Lib.hid hx; clear hx
    have Hy := Lib.hid hy; clear hy
    have hle : ys.length = xs.length := hl.symm
    rw [hle]
    have HL := Lib.hid hl; clear hl hle
    go_enter Tryz.func163, Tryz.ntmps163
    go_upto_region 4 with (fail)
    go_loopw [5, 13] (fun _ i wr => ∃ k : Nat, k ≤ xs.length ∧ i = .int .i64 k ∧ Hid (Ext w wr ∧ ∀ j, j < k → (fun (x y : BA) => x == y) (nth xs j) (nth ys j) = true)) (fun _ i _ => xs.length - (intOf i).toNat)
    case atStart => exact ⟨0, Nat.zero_le _, rfl, Ext.refl _, fun j hj => absurd hj (Nat.not_lt_zero _)⟩
    case round =>
      obtain ⟨k, hk, rfl, hH⟩ := hrel
      have HE := Lib.hid hH.out.1
      have Hall := Lib.hid hH.out.2
      clear hH
      by_cases hlt : k < xs.length
      · obtain ⟨xb, xo, hxo, hxl, x0, _⟩ := Strs.at (Strs.mono HE.out Hx.out) hlt
        obtain ⟨yb, yo, hyo, hyl, y0, _⟩ := Strs.at (Strs.mono HE.out Hy.out) (show k < ys.length by have := HL.out; omega)
        subst hxo hyo
        cases hq : (fun (x y : BA) => x == y) (nth xs k) (nth ys k)
        · have hr := Lib.hid (hs1.out k hlt hq)
          have hqb : ¬ (nth xs k).toList = (nth ys k).toList := by have hq2 : (nth xs k == nth ys k) = false := hq; rw [ba_eq_list] at hq2; simpa using hq2
          have hqc : ((nth xs k).toList == (nth ys k).toList) = false := by rw [beq_eq_false_iff_ne]; exact hqb
          clear hqb
          all_goals clear hq
          all_goals go_upto_region 6 with (fail)
          all_goals go_quiet (fail)
          all_goals go_wp2_with fail
          all_goals go_ret
          all_goals exact ⟨ret_bool hr.out.symm, below_drewN HE.out nq⟩
        · have hr := Lib.hid hq
          have hqb : (nth xs k).toList = (nth ys k).toList := by have hq2 : (nth xs k == nth ys k) = true := hq; rw [ba_eq_list] at hq2; simpa using hq2
          have hqc : ((nth xs k).toList == (nth ys k).toList) = true := by rw [beq_iff_eq]; exact hqb
          clear hqb
          clear hq
          go_upto_region 6 with (fail)
          go_quiet (fail)
          go_wp2_with fail
          go_roundw
          case rel =>
            refine ⟨k + 1, by omega, by go_num, below_drewN HE.out nq, fun j hj => ?_⟩
            by_cases hjk : j = k
            · rw [hjk]; exact hr.out
            · exact Hall.out j (by omega)
          case measure => simp [intOf]; omega
      · have : k = xs.length := by omega
        subst this
        have hr := Lib.hid (hs2.out Hall.out)
        go_wp2_with fail
        go_ret
        exact ⟨ret_bool hr.out.symm, HE.out⟩
  · have hs := Lib.hid (show sameB (fun (x y : BA) => x == y) xs ys = false from sameB_of_len hl)
    have hne : ((xs.length : Int) == (ys.length : Int)) = false := by rw [beq_eq_false_iff_ne]; omega
    clear hl
    go_enter Tryz.func163, Tryz.ntmps163
    go_wp2_with fail
    go_ret
    exact ⟨ret_bool hs.out.symm, Ext.refl _⟩
set_option maxHeartbeats 400000 in
set_option maxRecDepth 100000 in
theorem equal135 (a : Option Addr) (n c : Nat) (b : Option Addr) (m d : Nat) (xs ys : List Over) (w : World) (hx : Overs w (.slice a n c) xs) (hy : Overs w (.slice b m d) ys) :
    Calls Tryz.prog 135 #[.slice a n c, .slice b m d] w fun e w' => e = .returned (.bool (sameB overEq xs ys)) ∧ Ext w w' := by
  have hb1 := (SlW.bound hx).2
  have hb2 := (SlW.bound hy).2
  obtain rfl := SlW.len hx
  obtain rfl := SlW.len hy
  by_cases hl : xs.length = ys.length
  · have hs1 := Lib.hid (show ∀ k, k < xs.length → overEq (nth xs k) (nth ys k) = false → sameB overEq xs ys = false from fun k hk h => sameB_false hl hk h)
    have hs2 := Lib.hid (show (∀ k, k < xs.length → overEq (nth xs k) (nth ys k) = true) → sameB overEq xs ys = true from fun h => sameB_true hl h)
    have Hx := Lib.hid hx; clear hx
    have Hy := Lib.hid hy; clear hy
    have hle : ys.length = xs.length := hl.symm
    rw [hle]
    have HL := Lib.hid hl; clear hl hle
    go_enter Tryz.func135, Tryz.ntmps135
    go_upto_region 4 with (fail)
    go_loopw [5, 13] (fun _ i wr => ∃ k : Nat, k ≤ xs.length ∧ i = .int .i64 k ∧ Hid (Ext w wr ∧ ∀ j, j < k → overEq (nth xs j) (nth ys j) = true)) (fun _ i _ => xs.length - (intOf i).toNat)
    case atStart => exact ⟨0, Nat.zero_le _, rfl, Ext.refl _, fun j hj => absurd hj (Nat.not_lt_zero _)⟩
    case round =>
      obtain ⟨k, hk, rfl, hH⟩ := hrel
      have HE := Lib.hid hH.out.1
      have Hall := Lib.hid hH.out.2
      clear hH
      by_cases hlt : k < xs.length
      · obtain ⟨xb, xo, hxo, hxl, x0, x1, _⟩ := Overs.at (Overs.mono HE.out Hx.out) hlt
        obtain ⟨yb, yo, hyo, hyl, y0, y1, _⟩ := Overs.at (Overs.mono HE.out Hy.out) (show k < ys.length by have := HL.out; omega)
        subst hxo hyo
        cases hq : overEq (nth xs k) (nth ys k)
        · have hr := Lib.hid (hs1.out k hlt hq)
          have hqb : (¬ (nth xs k).name.toList = (nth ys k).name.toList) ∨ ((nth xs k).name.toList = (nth ys k).name.toList ∧ ¬ (nth xs k).proc.toList = (nth ys k).proc.toList) := by
            unfold overEq at hq; rw [ba_eq_list, ba_eq_list] at hq
            by_cases h1 : (nth xs k).name.toList = (nth ys k).name.toList <;> simp_all
          rcases hqb with hqb | ⟨hqa, hqb⟩
          all_goals clear hq
          all_goals go_upto_region 6 with (fail)
          all_goals go_quiet (fail)
          all_goals go_wp2_with fail
          all_goals go_ret
          all_goals exact ⟨ret_bool hr.out.symm, below_drewN HE.out nq⟩
        · have hr := Lib.hid hq
          have hqb : (nth xs k).name.toList = (nth ys k).name.toList ∧ (nth xs k).proc.toList = (nth ys k).proc.toList := by
            unfold overEq at hq; rw [ba_eq_list, ba_eq_list] at hq; simpa using hq
          obtain ⟨hqa, hqb⟩ := hqb
          clear hq
          go_upto_region 6 with (fail)
          go_quiet (fail)
          go_wp2_with fail
          go_roundw
          case rel =>
            refine ⟨k + 1, by omega, by go_num, below_drewN HE.out nq, fun j hj => ?_⟩
            by_cases hjk : j = k
            · rw [hjk]; exact hr.out
            · exact Hall.out j (by omega)
          case measure => simp [intOf]; omega
      · have : k = xs.length := by omega
        subst this
        have hr := Lib.hid (hs2.out Hall.out)
        go_wp2_with fail
        go_ret
        exact ⟨ret_bool hr.out.symm, HE.out⟩
  · have hs := Lib.hid (show sameB overEq xs ys = false from sameB_of_len hl)
    have hne : ((xs.length : Int) == (ys.length : Int)) = false := by rw [beq_eq_false_iff_ne]; omega
    clear hl
    go_enter Tryz.func135, Tryz.ntmps135
    go_wp2_with fail
    go_ret
    exact ⟨ret_bool hs.out.symm, Ext.refl _⟩
set_option maxHeartbeats 400000 in
theorem agree132 (x y : Part) (w : World) : Calls Tryz.prog 132 #[.agg #[.string x.name, .int .i64 x.type], .agg #[.string y.name, .int .i64 y.type]] w fun e w' => e = .returned (.bool (partEq x y)) ∧ Ext w w' := by
  have hs := Lib.hid (show partEq x y = (x.name.toList == y.name.toList) from beq_toListBytes _ _)
  go_enter Tryz.func132, Tryz.ntmps132
  go_wp2
  go_ret
  exact ⟨ret_bool hs.out.symm, by (repeat (first | exact Ext.refl _ | (refine Ext.trans ?_ (Hid.out (by assumption))) | (refine Ext.trans ?_ (Ext.alloc _ _)) | (refine Ext.trans ?_ (Ext.drew _)) | (refine below_drewN ?_ _)))⟩
theorem enters132 : Enters Tryz.prog 132 := enters_of Tryz.func132 (by kernel_rfl) rfl
set_option maxHeartbeats 400000 in
set_option maxRecDepth 100000 in
theorem equalFunc131 (a : Option Addr) (n c : Nat) (b : Option Addr) (m d : Nat) (xs ys : List Part) (w : World) (hx : Parts w (.slice a n c) xs) (hy : Parts w (.slice b m d) ys) :
    Calls Tryz.prog 131 #[.slice a n c, .slice b m d, .func (.func 132) #[] #[]] w fun e w' => e = .returned (.bool (sameB partEq xs ys)) ∧ Ext w w' := by
  have hb1 := (SlW.bound hx).2
  have hb2 := (SlW.bound hy).2
  obtain rfl := SlW.len hx
  obtain rfl := SlW.len hy
  by_cases hl : xs.length = ys.length
  · have hs1 := Lib.hid (show ∀ k, k < xs.length → partEq (nth xs k) (nth ys k) = false → sameB partEq xs ys = false from fun k hk h => sameB_false hl hk h)
    have hs2 := Lib.hid (show (∀ k, k < xs.length → partEq (nth xs k) (nth ys k) = true) → sameB partEq xs ys = true from fun h => sameB_true hl h)
    have Hx := Lib.hid hx; clear hx
    have Hy := Lib.hid hy; clear hy
    have hle : ys.length = xs.length := hl.symm
    rw [hle]
    have HL := Lib.hid hl; clear hl hle
    go_enter Tryz.func131, Tryz.ntmps131
    go_wp2
    go_loopw [7, 8, 9, 17] (fun _ _ _ i wr => ∃ k : Nat, k ≤ xs.length ∧ i = .int .i64 k ∧ Hid (Ext w wr ∧ ∀ j, j < k → partEq (nth xs j) (nth ys j) = true)) (fun _ _ _ i _ => xs.length - (intOf i).toNat)
    case atStart => exact ⟨0, Nat.zero_le _, rfl, Ext.refl _, fun j hj => absurd hj (Nat.not_lt_zero _)⟩
    case round =>
      obtain ⟨k, hk, rfl, hH⟩ := hrel
      have HE := Lib.hid hH.out.1
      have Hall := Lib.hid hH.out.2
      clear hH
      by_cases hlt : k < xs.length
      · have hky : k < ys.length := by have := HL.out; omega
        obtain ⟨xb, xo, hxo, hxl, x0, x1, _⟩ := Parts.at (Parts.mono HE.out Hx.out) hlt
        obtain ⟨yb, yo, hyo, hyl, y0, y1, _⟩ := Parts.at (Parts.mono HE.out Hy.out) hky
        subst hxo hyo
        clear hky
        go_wp2_with fail
        have hEE : Ext wr ((wr.alloc (.cells #[.string (nth xs k).name, .int .i64 (nth xs k).type] 83)).alloc (.cells #[.string (nth ys k).name, .int .i64 (nth ys k).type] 83)) := (Ext.alloc _ _).trans (Ext.alloc _ _)
        
        refine (agree132 _ _ _).mono ?_
        rintro e w2 ⟨rfl, hE⟩
        have HE2 := Lib.hid (HE.out.trans (hEE.trans hE)); clear hE hEE
        cases hq : partEq (nth xs k) (nth ys k)
        · have hr := Lib.hid (hs1.out k hlt hq)
          go_wp2_with fail
          go_ret
          exact ⟨ret_bool hr.out.symm, HE2.out⟩
        · have hr := Lib.hid hq
          clear hq
          go_wp2_with fail
          go_roundw
          case rel =>
            refine ⟨k + 1, by omega, by go_num, HE2.out, fun j hj => ?_⟩
            by_cases hjk : j = k
            · rw [hjk]; exact hr.out
            · exact Hall.out j (by omega)
          case measure => simp [intOf]; omega
      · have : k = xs.length := by omega
        subst this
        have hr := Lib.hid (hs2.out Hall.out)
        go_wp2_with fail
        go_ret
        exact ⟨ret_bool hr.out.symm, HE.out⟩
  · have hs := Lib.hid (show sameB partEq xs ys = false from sameB_of_len hl)
    have hne : ((xs.length : Int) == (ys.length : Int)) = false := by rw [beq_eq_false_iff_ne]; omega
    clear hl
    go_enter Tryz.func131, Tryz.ntmps131
    go_wp2_with fail
    go_ret
    exact ⟨ret_bool hs.out.symm, Ext.refl _⟩
set_option maxHeartbeats 400000 in
set_option maxRecDepth 100000 in
theorem sameMethods134 (x y : Meth) (aa : Option Addr) (al ac : Nat) (ra : Option Addr) (rl rc : Nat) (ba : Option Addr) (bl bc : Nat) (sa : Option Addr) (sl sc : Nat) (w : World)
    (hal : al = x.sig.args.length) (hbl : bl = y.sig.args.length) (ha1 : al * 8 ≤ 140737488351232) (hb1 : bl * 8 ≤ 140737488351232) (hr : Strs w (.slice ra rl rc) x.sig.raises) (hs : Strs w (.slice sa sl sc) y.sig.raises) :
    Calls Tryz.prog 134 #[.agg #[.string x.name, .slice aa al ac, .int .i64 x.sig.result, .slice ra rl rc, .string x.proc], .agg #[.string y.name, .slice ba bl bc, .int .i64 y.sig.result, .slice sa sl sc, .string y.proc]] w fun e w' =>
      e = .returned (.bool (methEq x y)) ∧ Ext w w' := by
  have Heq := Lib.hid (show methEq x y = ((x.name.toList == y.name.toList) && (x.proc.toList == y.proc.toList) && ((al : Int) == (bl : Int)) && (decide (x.sig.result < 0) == decide (y.sig.result < 0)) && sameB (fun (a b : BA) => a == b) x.sig.raises y.sig.raises) by
    unfold methEq
    rw [beq_toListBytes, beq_toListBytes, hal, hbl]
    congr 3
    rw [Bool.eq_iff_iff]; simp; omega)
  have hE0 := (Ext.alloc w (.cells #[.string x.name, .slice aa al ac, .int .i64 x.sig.result, .slice ra rl rc, .string x.proc] 88)).trans (Ext.alloc (w.alloc (.cells #[.string x.name, .slice aa al ac, .int .i64 x.sig.result, .slice ra rl rc, .string x.proc] 88)) (.cells #[.string y.name, .slice ba bl bc, .int .i64 y.sig.result, .slice sa sl sc, .string y.proc] 88))
  have Hc := Lib.hid (equal163 ra rl rc sa sl sc x.sig.raises y.sig.raises _ (Strs.mono hE0 hr) (Strs.mono hE0 hs))
  have HE0 := Lib.hid hE0
  clear hr hs hal hbl hE0
  cases h1 : (x.name.toList == y.name.toList)
  · go_enter Tryz.func134, Tryz.ntmps134
    go_wp2_with fail
    go_ret
    exact ⟨ret_bool (by rw [Heq.out, h1]; rfl), HE0.out⟩
  cases h2 : (x.proc.toList == y.proc.toList)
  · go_enter Tryz.func134, Tryz.ntmps134
    go_wp2_with fail
    go_ret
    exact ⟨ret_bool (by rw [Heq.out, h1, h2]; rfl), HE0.out⟩
  cases h3 : ((al : Int) == (bl : Int))
  · go_enter Tryz.func134, Tryz.ntmps134
    go_wp2_with fail
    go_ret
    exact ⟨ret_bool (by rw [Heq.out, h1, h2, h3]; rfl), HE0.out⟩
  cases h4 : decide (x.sig.result < 0) <;> cases h5 : decide (y.sig.result < 0)
  · go_enter Tryz.func134, Tryz.ntmps134
    go_wp2_with fail
    refine Hc.out.mono ?_
    rintro e w2 ⟨rfl, hE⟩
    have HE := Lib.hid hE; clear hE
    go_wp2_with fail
    go_ret
    exact ⟨ret_bool (by rw [Heq.out, h1, h2, h3, h4, h5]; rfl), HE0.out.trans HE.out⟩
  · go_enter Tryz.func134, Tryz.ntmps134
    go_wp2_with fail
    go_ret
    exact ⟨ret_bool (by rw [Heq.out, h1, h2, h3, h4, h5]; rfl), HE0.out⟩
  · go_enter Tryz.func134, Tryz.ntmps134
    go_wp2_with fail
    go_ret
    exact ⟨ret_bool (by rw [Heq.out, h1, h2, h3, h4, h5]; rfl), HE0.out⟩
  · go_enter Tryz.func134, Tryz.ntmps134
    go_wp2_with fail
    refine Hc.out.mono ?_
    rintro e w2 ⟨rfl, hE⟩
    have HE := Lib.hid hE; clear hE
    go_wp2_with fail
    go_ret
    exact ⟨ret_bool (by rw [Heq.out, h1, h2, h3, h4, h5]; rfl), HE0.out.trans HE.out⟩
theorem enters134 : Enters Tryz.prog 134 := enters_of Tryz.func134 (by kernel_rfl) rfl
set_option maxHeartbeats 400000 in
set_option maxRecDepth 100000 in
theorem equalFunc133 (a : Option Addr) (n c : Nat) (b : Option Addr) (m d : Nat) (xs ys : List Meth) (w : World) (hx : Meths w (.slice a n c) xs) (hy : Meths w (.slice b m d) ys) :
    Calls Tryz.prog 133 #[.slice a n c, .slice b m d, .func (.func 134) #[] #[]] w fun e w' => e = .returned (.bool (sameB methEq xs ys)) ∧ Ext w w' := by
  have hb1 := (SlW.bound hx).2
  have hb2 := (SlW.bound hy).2
  obtain rfl := SlW.len hx
  obtain rfl := SlW.len hy
  by_cases hl : xs.length = ys.length
  · have hs1 := Lib.hid (show ∀ k, k < xs.length → methEq (nth xs k) (nth ys k) = false → sameB methEq xs ys = false from fun k hk h => sameB_false hl hk h)
    have hs2 := Lib.hid (show (∀ k, k < xs.length → methEq (nth xs k) (nth ys k) = true) → sameB methEq xs ys = true from fun h => sameB_true hl h)
    have Hx := Lib.hid hx; clear hx
    have Hy := Lib.hid hy; clear hy
    have hle : ys.length = xs.length := hl.symm
    rw [hle]
    have HL := Lib.hid hl; clear hl hle
    go_enter Tryz.func133, Tryz.ntmps133
    go_wp2
    go_loopw [7, 8, 9, 17] (fun _ _ _ i wr => ∃ k : Nat, k ≤ xs.length ∧ i = .int .i64 k ∧ Hid (Ext w wr ∧ ∀ j, j < k → methEq (nth xs j) (nth ys j) = true)) (fun _ _ _ i _ => xs.length - (intOf i).toNat)
    case atStart => exact ⟨0, Nat.zero_le _, rfl, Ext.refl _, fun j hj => absurd hj (Nat.not_lt_zero _)⟩
    case round =>
      obtain ⟨k, hk, rfl, hH⟩ := hrel
      have HE := Lib.hid hH.out.1
      have Hall := Lib.hid hH.out.2
      clear hH
      by_cases hlt : k < xs.length
      · have hky : k < ys.length := by have := HL.out; omega
        obtain ⟨xb, xo, xaa, xal, xac, xra, xrl, xrc, hxo, hxl, x0, x1, x2, x3, x4, hxa, hxr, _⟩ := Meths.at (Meths.mono HE.out Hx.out) hlt
        obtain ⟨yb, yo, yaa, yal, yac, yra, yrl, yrc, hyo, hyl, y0, y1, y2, y3, y4, hya, hyr, _⟩ := Meths.at (Meths.mono HE.out Hy.out) hky
        subst hxo hyo
        clear hky
        go_wp2_with fail
        have hEE : Ext wr ((wr.alloc (.cells #[.string (nth xs k).name, .slice xaa xal xac, .int .i64 (nth xs k).sig.result, .slice xra xrl xrc, .string (nth xs k).proc] 88)).alloc (.cells #[.string (nth ys k).name, .slice yaa yal yac, .int .i64 (nth ys k).sig.result, .slice yra yrl yrc, .string (nth ys k).proc] 88)) := (Ext.alloc _ _).trans (Ext.alloc _ _)
        have hxb := (SlW.bound hxa).2
        have hyb := (SlW.bound hya).2
        refine (sameMethods134 _ _ xaa xal xac xra xrl xrc yaa yal yac yra yrl yrc _ (SlW.len hxa) (SlW.len hya) (by omega) (by omega) (Strs.mono hEE hxr) (Strs.mono hEE hyr)).mono ?_
        rintro e w2 ⟨rfl, hE⟩
        have HE2 := Lib.hid (HE.out.trans (hEE.trans hE)); clear hE hEE
        cases hq : methEq (nth xs k) (nth ys k)
        · have hr := Lib.hid (hs1.out k hlt hq)
          go_wp2_with fail
          go_ret
          exact ⟨ret_bool hr.out.symm, HE2.out⟩
        · have hr := Lib.hid hq
          clear hq
          go_wp2_with fail
          go_roundw
          case rel =>
            refine ⟨k + 1, by omega, by go_num, HE2.out, fun j hj => ?_⟩
            by_cases hjk : j = k
            · rw [hjk]; exact hr.out
            · exact Hall.out j (by omega)
          case measure => simp [intOf]; omega
      · have : k = xs.length := by omega
        subst this
        have hr := Lib.hid (hs2.out Hall.out)
        go_wp2_with fail
        go_ret
        exact ⟨ret_bool hr.out.symm, HE.out⟩
  · have hs := Lib.hid (show sameB methEq xs ys = false from sameB_of_len hl)
    have hne : ((xs.length : Int) == (ys.length : Int)) = false := by rw [beq_eq_false_iff_ne]; omega
    clear hl
    go_enter Tryz.func133, Tryz.ntmps133
    go_wp2_with fail
    go_ret
    exact ⟨ret_bool hs.out.symm, Ext.refl _⟩
end Go.Proofs.YtjffkeoajkhbmaaGreat
