/- The law SubLaws: in plain Lean, and walked. -/
import Derived.Test.YtjffkeoajkhbmaaGreatLaws1
namespace Go.Proofs.YtjffkeoajkhbmaaGreat
open Go.RowKit Go.Proofs Go.Shelf
set_option linter.unusedSimpArgs false
def lieB (g : List Ty) (rs : List Reveal) (a b : Nat) : Bool := (nth (reachL g rs g.length) a).testBit b
theorem lieB_iff {g : List Ty} {rs : List Reveal} (h : openE g rs = 0) {a b : Nat} (ha : a < g.length) : lieB g rs a b = true ↔ Lies g rs a b := bit_lies h ha
theorem below_lieB {g : List Ty} {rs : List Reveal} {a b : Nat} (ha : a < g.length) (hb : b < g.length) : belowQ g rs a b = (lieB g rs a b, 0) := by
  unfold belowQ belowR
  rw [if_pos (asked_two ha hb)]
  rfl
theorem equal_lieB {g : List Ty} {rs : List Reveal} (h : openE g rs = 0) {a b : Nat} (ha : a < g.length) (hb : b < g.length) : ∃ s, equalR g a b = (s, 0) ∧ (s = true → lieB g rs a b = true) := by
  obtain ⟨h0, _⟩ := opens h
  unfold equalR
  rw [if_pos h0, if_pos (by rw [hasI_iff.2 (by omega), hasI_iff.2 (by omega)]; rfl)]
  exact ⟨_, rfl, fun hs => (lieB_iff h ha).2 (same_lies hb (by simpa using hs))⟩
theorem refl_lieB {g : List Ty} {rs : List Reveal} (h : openE g rs = 0) {a : Nat} (ha : a < g.length) : lieB g rs a a = true := (lieB_iff h ha).2 Reach.refl
theorem trans_lieB {g : List Ty} {rs : List Reveal} (h : openE g rs = 0) {a b c : Nat} (ha : a < g.length) (hb : b < g.length) (h1 : lieB g rs a b = true) (h2 : lieB g rs b c = true) : lieB g rs a c = true :=
  (lieB_iff h ha).2 (Reach.trans ((lieB_iff h ha).1 h1) ((lieB_iff h hb).1 h2))
theorem word_lieB {g : List Ty} {rs : List Reveal} (h : openE g rs = 0) {a b : Nat} (ha : a < g.length) (h1 : lieB g rs a b = true) : isWordB (nth g a).kind = isWordB (nth g b).kind := lies_word h ha ((lieB_iff h ha).1 h1)
theorem above_nums {g : List Ty} {rs : List Reveal} {a : Nat} (ha : a < g.length) : aboveQ g rs a = numsOf ((List.range g.length).filter (lieB g rs a)) ∧ askedR g.length [(a : Int)] = 0 := by
  have h0 : askedR g.length [(a : Int)] = 0 := asked_in (fun i hi => by
    rw [List.mem_singleton] at hi
    omega)
  refine ⟨?_, h0⟩
  unfold aboveQ
  rw [if_pos h0]
  rfl
theorem equalV {W : World} {a : Option Addr} {n c : Nat} {g : List Ty} (hg : Graph W (.slice a n c) g) (x y : Int) (hx : I64 x) (hy : I64 y) (r : Bool) (k : Int) (hq : equalR g x y = (r, k)) :
    Calls Tryz.prog 35 #[.slice a n c, .int .i64 x, .int .i64 y] W fun e w' => e = .returned (.tuple #[.bool r, .int .i64 k]) ∧ Ext W w' := by have := equal35 a n c g x y W hg hx hy; rw [hq] at this; exact this
def boolRow (n : Nat) (f : Nat → Bool) : Array Value := ((List.range n).map fun j => Value.bool (f j)).toArray
theorem boolRow_size (n : Nat) (f : Nat → Bool) : (boolRow n f).size = n := by simp [boolRow]
theorem boolRow_at {n j : Nat} (f : Nat → Bool) (h : j < n) : (boolRow n f)[j]? = some (.bool (f j)) := by simp [boolRow, h]
def RowB (w : World) (b n : Nat) (f : Nat → Bool) : Prop := w.heap[b]? = some (.cells (boolRow n f) 4 (0, 0))
theorem RowB.ext {w w' : World} {b n : Nat} {f : Nat → Bool} (h : RowB w b n f) (hE : Ext w w') : RowB w' b n f := (hE.block b (row_lt h)).trans h
theorem RowB.cell {w : World} {b n : Nat} {f : Nat → Bool} (h : RowB w b n f) {j : Nat} (hj : j < n) : w.cell? ⟨b, j, none⟩ = some (.bool (f j)) := row_cell h (boolRow_at f hj)
theorem RowB.free {w : World} {b n : Nat} {f : Nat → Bool} (h : RowB w b n f) (j : Nat) : w.frozen? ⟨b, j, none⟩ = false := by
  unfold World.frozen?
  rw [show w.heap[(⟨b, j, none⟩ : Addr).block]? = _ from h]
  simp
theorem RowB.set {w : World} {b n : Nat} {f : Nat → Bool} (h : RowB w b n f) (j : Nat) : RowB (w.setCell ⟨b, j, none⟩ (.bool true)) b n (fun i => i == j || f i) := by
  unfold RowB World.setCell at *
  simp only [Array.getElem?_modify, if_true]
  rw [h]
  simp only [Option.map_some, Option.isSome_none, Bool.false_eq_true, if_false, Option.some.injEq, Obj.cells.injEq, and_true]
  apply Array.ext
  · simp [boolRow]
  · intro i h1 h2
    simp only [boolRow, List.setIfInBounds_toArray, List.getElem_toArray, List.getElem_set, List.getElem_map, List.getElem_range]
    by_cases hij : i = j
    · subst hij; simp
    · rw [if_neg (fun e => hij e.symm)]
      simp [beq_eq_false_iff_ne.2 hij]
theorem RowB.new (w : World) (n : Nat) : RowB (w.alloc (.cells (boolRow n fun _ => false) 4)) w.heap.size n fun _ => false := heap_alloc_new w _
theorem RowB.congr {w : World} {b n : Nat} {f f' : Nat → Bool} (h : RowB w b n f) (k : ∀ j, j < n → f j = f' j) : RowB w b n f' := by
  have : boolRow n f = boolRow n f' := by
    unfold boolRow
    congr 1
    exact List.map_congr_left (fun j hj => by rw [k j (List.mem_range.1 hj)])
  unfold RowB at *
  rw [h, this]
theorem RowB.off {w : World} {b n j : Nat} {f : Nat → Bool} {x : Int} {a : Addr} (h : RowB w b n f) (hc : w.cell? a = some (.int .i64 x)) (ha : a = ⟨b, j, none⟩) : False := by
  subst ha
  rcases Nat.lt_or_ge j n with hj | hj
  · rw [h.cell hj] at hc; cases hc
  · unfold World.cell? at hc
    rw [show w.heap[(⟨b, j, none⟩ : Addr).block]? = _ from h] at hc
    simp [boolRow] at hc
theorem RowB.ints {w w' : World} {b n : Nat} {f : Nat → Bool} {v : Value} {xs : List Int} (h : RowB w b n f) (hi : Ints w v xs) (hg : w.grownBy w' (some b)) : Ints w' v xs := by
  obtain ⟨a, c, hv, h1, h2, h3⟩ := hi
  refine ⟨a, c, hv, h1, h2, fun i x hx => ?_⟩
  obtain ⟨b2, off, cs, ha, ⟨rfl, hr⟩, hl, hc⟩ := h3 i x hx
  refine ⟨b2, off, _, ha, ⟨rfl, hr⟩, hl, fun j u hu => ?_⟩
  refine hg.cell (hc j u hu) (fun e => ?_)
  have e := Option.some.inj e
  match j, hu with
  | 0, hu =>
    exact h.off (hc 0 _ rfl) (by rw [Addr.mk.injEq]; exact ⟨e, rfl, rfl⟩)
def RowC (n : Nat) (b : Nat) (cs : List Value) : Prop := cs = [.slice (some ⟨b, 0, none⟩) n n]
structure TabI (w wr : World) (g : List Ty) (rs : List Reveal) (v : Value) (k : Nat) : Prop where
  ext : Ext w wr
  own : ∃ rbs : List Nat, rbs.length = k ∧ OwnL (RowC g.length) 64 1 wr w.heap.size v rbs ∧ ∀ (i b : Nat), rbs[i]? = some b → v.ownBlock ≠ some b ∧ RowB wr b g.length (lieB g rs i)
theorem OwnL.later {α : Type} {R : α → List Value → Prop} {e : TypeId} {sz : Nat} {w w' : World} {base : Nat} {v : Value} {xs : List α} (h : OwnL R e sz w base v xs) (hE : Ext w w') : OwnL R e sz w' base v xs := by
  obtain ⟨css, hl, hR, hsz, hown⟩ := h
  exact ⟨css, hl, hR, hsz, owns_ext hown hE⟩
theorem TabI.nil (w : World) (g : List Ty) (rs : List Reveal) : TabI w w g rs (.slice none 0 0) 0 := ⟨Ext.refl w, [], rfl, OwnL.nil w, fun i b h => by simp at h⟩
theorem TabI.later {w wr wx : World} {g : List Ty} {rs : List Reveal} {v : Value} {k : Nat} (h : TabI w wr g rs v k) (hE : Ext wr wx) : TabI w wx g rs v k := by
  obtain ⟨h1, rbs, h2, h3, h4⟩ := h
  exact ⟨h1.trans hE, rbs, h2, h3.later hE, fun i b hb => ⟨(h4 i b hb).1, (h4 i b hb).2.ext hE⟩⟩
theorem rowC_cells (n : Nat) : ∀ y cs, RowC n y cs → ∀ u, u ∈ cs → u.oneCell' = true := fun y cs h u hu => by
  subst h
  rw [List.mem_singleton] at hu
  subst hu; rfl
theorem rowC_one (wx : World) (b n : Nat) : SlW (fun _ => RowC n) 1 (wx.alloc (.cells #[.slice (some ⟨b, 0, none⟩) n n] 64)) (.slice (some ⟨wx.heap.size, 0, none⟩) 1 1) [b] :=
  ⟨_, 1, rfl, Nat.le_refl _, by show 1 * (8 * 1) ≤ maxBytes; decide, fun i x hx => by
    match i, hx with
    | 0, hx =>
      cases hx
      refine ⟨_, 0, _, rfl, rfl, rfl, fun j u hu => ?_⟩
      rw [show 0 + 0 * 1 + j = j by omega]
      exact row_cell (heap_alloc_new wx _) (by simpa using hu)⟩
theorem TabI.push {w wx W2 : World} {g : List Ty} {rs : List Reveal} {v v' : Value} {k : Nat} {rbs : List Nat} (h1 : Ext w wx) (hl : rbs.length = k) (hr : ∀ (i b : Nat), rbs[i]? = some b → v.ownBlock ≠ some b ∧ RowB wx b g.length (lieB g rs i))
    (hO : OwnL (RowC g.length) 64 1 wx w.heap.size v rbs) {rb : Nat} (hne : v.ownBlock ≠ some rb) (hrow : RowB wx rb g.length (lieB g rs k)) (hO2 : OwnL (RowC g.length) 64 1 W2 w.heap.size v' (rbs ++ [rb]))
    (hg : (wx.alloc (.cells #[.slice (some ⟨rb, 0, none⟩) g.length g.length] 64)).grownBy W2 v.ownBlock) (hat : v'.ownBlock = v.ownBlock ∨ v'.ownBlock = some (wx.alloc (.cells #[.slice (some ⟨rb, 0, none⟩) g.length g.length] 64)).heap.size) : TabI w W2 g rs v' (k + 1) := by
  have hx : Ext wx (wx.alloc (.cells #[.slice (some ⟨rb, 0, none⟩) g.length g.length] 64)) := Ext.alloc _ _
  have key : ∀ b f, v.ownBlock ≠ some b → RowB wx b g.length f → v'.ownBlock ≠ some b ∧ RowB W2 b g.length f := fun b f h1 h2 => by
    have hb := row_lt h2
    refine ⟨fun e => ?_, ?_⟩
    · rcases hat with ha | ha
      · exact h1 (ha.symm.trans e)
      · have := Option.some.inj (ha.symm.trans e)
        rw [World.size_alloc] at this
        omega
    · exact (hg.block b (by rw [World.size_alloc]; omega) (fun e => h1 e.symm)).trans (h2.ext hx)
  refine ⟨(h1.trans hx).grown hg (h1.trans hx).size (fun q e => (hO.lt q e).1), rbs ++ [rb], by simp [hl], hO2, fun i b hb => ?_⟩
  rcases Nat.lt_or_ge i rbs.length with hlt | hge
  · rw [List.getElem?_append_left hlt] at hb
    exact key b _ (hr i b hb).1 (hr i b hb).2
  · have hil := (List.getElem?_eq_some_iff.1 hb).1
    simp at hil
    have : i = k := by omega
    subst this
    rw [List.getElem?_append_right (by omega), hl] at hb
    simp at hb
    subst hb
    exact key _ _ hne hrow
def TabR (W : World) (tb : Nat) (g : List Ty) (rs : List Reveal) : Prop := ∀ i, i < g.length → ∃ b, W.cell? ⟨tb, i, none⟩ = some (.slice (some ⟨b, 0, none⟩) g.length g.length) ∧ ∀ j, j < g.length → W.cell? ⟨b, j, none⟩ = some (.bool (lieB g rs i j))
theorem TabR.ext {W W' : World} {tb : Nat} {g : List Ty} {rs : List Reveal} (h : TabR W tb g rs) (hE : Ext W W') : TabR W' tb g rs := fun i hi => by
  obtain ⟨b, h1, h2⟩ := h i hi
  exact ⟨b, hE.cell h1, fun j hj => hE.cell (h2 j hj)⟩
theorem TabI.reads {w wr : World} {g : List Ty} {rs : List Reveal} {v : Value} (h : TabI w wr g rs v g.length) (h4 : g.length ≤ 400) : ∃ a c, v = .slice a g.length c ∧ (0 < g.length → ∃ tb, a = some ⟨tb, 0, none⟩ ∧ TabR wr tb g rs) := by
  obtain ⟨h1, rbs, h2, h3, h4⟩ := h
  have hs := h3.slw (by unfold maxBytes; omega)
  obtain ⟨css, k1, k2, k3, hown⟩ := id h3
  rcases id hown.2 with ⟨rfl, h0⟩ | ⟨tb, c, cur, rfl, _, _, hc, _, _, _⟩
  · exact ⟨none, 0, by rw [show g.length = 0 by omega], fun h => by omega⟩
  · rw [h2] at hs
    refine ⟨_, c, by rw [h2], fun _ => ⟨tb, rfl, fun i hi => ?_⟩⟩
    obtain ⟨b, off, cs, ha, hr, _, hcell⟩ := SlW.at hs hi
    cases ha
    have hb : rbs[i]? = some (nth rbs i) := get_of_lt (by omega)
    have hrow := (h4 i _ hb).2
    have h0 := hcell 0 _ (by rw [show cs = _ from hr]; rfl)
    rw [show 0 + i * 1 + 0 = i by omega] at h0
    exact ⟨_, h0, fun j hj => hrow.cell hj⟩
theorem wpList_append_list {P : Program} {α : Type} {R : α → List Value → Prop} {xs ys : List α} {w : World} {ops : Array Oper} {rest : List Oper} {o : Oper} {a : Act} {Q : Exit → Act → World → Prop} (hgd : o.guard = none) (s x : Operand) (t : TypeId)
    (ho : o.op = .call { callee := .builtin .append, args := #[s, x], argTypes := #[t, t] })
    (base : Nat) (e : TypeId) (i : TypeInfo) (z : Value) (size bytes : Nat) (ht : P.underlying t = some (.slice e)) (hi : P.info? e = some i) (hz : i.zero = some z)
    (hsize : i.size = size) (hby : i.bytes = bytes) (hzs : z.cells.size = size) (hsz : 0 < size)
    (v xv : Value) (hs : a.eval s = v) (hown : OwnL R e size w base v xs) (hx : a.eval x = xv) (hsl : SlW (fun _ => R) size w xv ys) (hone : ∀ y cs, R y cs → ∀ u, u ∈ cs → u.oneCell' = true)
    (h63 : xs.length + ys.length ≤ maxLen) (hbytes : (xs.length + ys.length) * bytes ≤ 140737488355328) (hbase : base ≤ w.heap.size)
    (h : ∀ v' w', OwnL R e size w' base v' (xs ++ ys) → w.grownBy w' v.ownBlock → (v'.ownBlock = v.ownBlock ∨ v'.ownBlock = some w.heap.size) → wpList P ops Q rest (a.put o.dst v') w') :
    wpList P ops Q (o :: rest) a w := by
  refine wpList_plain hgd fun K hK => ?_
  exact wp_append_list s x t ho base e i z size bytes ht hi hz hsize hby hzs hsz v xv hs hown hx hsl hone h63 hbytes hbase (fun v' w' h1 h2 h3 => hK _ _ (h v' w' h1 h2 h3))
theorem info64 : (Tryz.prog.info? 64).map (fun i => (i.zero, i.size, i.bytes)) = some (some (.slice none 0 0), 1, 24) := by kernel_rfl
theorem info4 : (Tryz.prog.info? 4).map (fun i => (i.zero, i.size, i.bytes)) = some (some (.bool false), 1, 1) := by kernel_rfl
theorem made_bools (n : Nat) : madeCells #[.bool false] n = boolRow n fun _ => false := by
  unfold madeCells boolRow
  apply Array.ext
  · simp
  · intro i h1 h2
    simp [Nat.mod_one]
theorem makeBools (n : Nat) (hn : n ≤ 400) (w : World) : (Instr.makeSlice 64 (.int .i64 n) (.int .i64 n)).run Tryz.prog w = .ok (.slice (some ⟨w.heap.size, 0, none⟩) n n) (w.alloc (.cells (boolRow n fun _ => false) 4)) := by
  obtain ⟨i0, hi, hz0, hz1, hz2⟩ := info_parts info4
  have := run_make (P := Tryz.prog) w 64 4 i0 (.bool false) Tryz.underlying64 hi hz0 .i64 .i64 n n (by omega) (Int.le_refl _) (by rw [hz2]; omega) (by omega)
  rw [this, hz1]
  simp [Value.cells, made_bools]
structure MarkI (w3 W1 wx0 wx : World) (g : List Ty) (rs : List Reveal) (k m : Nat) : Prop where
  gr : wx0.grownBy wx (some W1.heap.size)
  row : RowB wx W1.heap.size g.length fun j => decide (j ∈ ((List.range g.length).filter (lieB g rs k)).take m)
  ext : Ext W1 wx
theorem MarkI.set {w3 W1 wx0 wx : World} {g : List Ty} {rs : List Reveal} {k m : Nat} (h : MarkI w3 W1 wx0 wx g rs k m) {j : Nat} (hj : ((List.range g.length).filter (lieB g rs k))[m]? = some j) : MarkI w3 W1 wx0 (wx.setCell ⟨W1.heap.size, j, none⟩ (.bool true)) g rs k (m + 1) := by
  refine ⟨grownBy_set h.gr _ _, (h.row.set j).congr (fun i _ => ?_), Below.setCell h.ext (Nat.le_refl _) _⟩
  rw [List.take_add_one, hj]
  by_cases hij : i = j
  · subst hij; simp
  · simp [beq_eq_false_iff_ne.2 hij, hij]
theorem MarkI.done {w3 W1 wx0 wx : World} {g : List Ty} {rs : List Reveal} {k m : Nat} (h : MarkI w3 W1 wx0 wx g rs k m) (hm : ((List.range g.length).filter (lieB g rs k)).length ≤ m) : RowB wx W1.heap.size g.length (lieB g rs k) :=
  h.row.congr (fun j hj => by
    rw [List.take_of_length_le hm, Bool.eq_iff_iff]
    simp only [decide_eq_true_eq, List.mem_filter, List.mem_range]
    exact ⟨fun h => h.2, fun h => ⟨hj, h⟩⟩)
set_option maxRecDepth 100000 in
set_option maxHeartbeats 4000000 in
theorem subLaws9 (ga : Option Addr) (gn gc : Nat) (g : List Ty) (ra : Option Addr) (rn rc : Nat) (rs : List Reveal) (w : World) (hg : Graph w (.slice ga gn gc) g) (hre : Reveals w (.slice ra rn rc) rs) :
    Calls Tryz.prog 9 #[.slice ga gn gc, .slice ra rn rc] w (Holds w) := by
  have Hg := Lib.hid hg
  have Hre := Lib.hid hre
  obtain rfl := SlW.len hg
  have hgb := (SlW.bound hg).2
  clear hg hre
  obtain ⟨i0, hi, hz0, hz1, hz2⟩ := info_parts info64
  go_enter Tryz.func9, Tryz.ntmps9
  go_wp2_with fail
  refine (little13 _ _ _ g w Hg.out).mono ?_
  rintro e w1 ⟨bl, rfl, hE, hl⟩
  have HE := Lib.hid hE
  have Hl := Lib.hid hl
  clear hE hl
  cases bl
  · go_wp2_with fail
    refine (ordered15 _).mono ?_
    rintro e wN ⟨rfl, hE⟩
    have HE := Lib.hid (HE.out.trans hE)
    clear hE
    go_wp2_with fail
    go_ret
    exact ⟨rfl, HE.out⟩
  go_wp2_with fail
  refine (few14 _ _ _ rs w1 (Reveals.mono HE.out Hre.out)).mono ?_
  rintro e w2 ⟨bf, rfl, hE, hf⟩
  have HE := Lib.hid (HE.out.trans hE)
  have Hf := Lib.hid hf
  clear hE hf
  cases bf
  · go_wp2_with fail
    refine (ordered15 _).mono ?_
    rintro e wN ⟨rfl, hE⟩
    have HE := Lib.hid (HE.out.trans hE)
    clear hE
    go_wp2_with fail
    go_ret
    exact ⟨rfl, HE.out⟩
  go_wp2_with fail
  refine (inA _ _ _ g _ _ _ rs w2 (Graph.mono HE.out Hg.out) (Reveals.mono HE.out Hre.out)).mono ?_
  rintro e w3 ⟨hE, (⟨h0, vb, rfl, hA⟩ | ⟨h0, rfl⟩)⟩
  rotate_left
  · have HE := Lib.hid (HE.out.trans hE)
    have hne : ((openE g rs : Int) != 0) = true := by simpa using h0
    clear hE h0
    go_wp2_with fail
    refine (ordered15 _).mono ?_
    rintro e wN ⟨rfl, hE⟩
    have HE := Lib.hid (HE.out.trans hE)
    clear hE
    go_wp2_with fail
    go_ret
    exact ⟨rfl, HE.out⟩
  have HE := Lib.hid (HE.out.trans hE)
  have HA := Lib.hid hA
  have H0 := Lib.hid h0
  clear hE hA h0
  have h400 := (opens H0.out).2.1
  go_wp2_with fail
  go_loopw [7, 8] (fun v i wr => ∃ k : Nat, k ≤ g.length ∧ i = .int .i64 k ∧ Hid (TabI w3 wr g rs v k)) (fun _ i _ => g.length - (intOf i).toNat)
  case atStart => exact ⟨0, Nat.zero_le _, rfl, Lib.hid (TabI.nil w3 g rs)⟩
  case round =>
    obtain ⟨k, hk, rfl, hT⟩ := hrel
    rename World => W1
    by_cases hlt : k < g.length
    · have hmk := makeBools g.length h400
      have HW := Lib.hid (show RowB (W1.alloc (.cells (boolRow g.length fun _ => false) 4)) W1.heap.size g.length fun _ => false from RowB.new W1 g.length)
      have HEa := Lib.hid (Ext.alloc W1 (.cells (boolRow g.length fun _ => false) 4))
      have HA1 := Lib.hid ((HA.out.mono hT.out.ext).mono HEa.out)
      obtain ⟨hab, has⟩ := above_nums (rs := rs) hlt
      have Hab := Lib.hid hab
      have Has := Lib.hid has
      clear hab has
      go_wp2_with fail
      refine (aboveA HA1.out k (i64_nat hlt h400)).mono ?_
      rintro e wx0 ⟨xa, xn, xc, rfl, hI, hE⟩
      rw [Hab.out] at hI
      rw [Has.out]
      obtain rfl := SlW.len hI
      have hlen : (numsOf ((List.range g.length).filter (lieB g rs k))).length = ((List.range g.length).filter (lieB g rs k)).length := by simp [numsOf]
      have hll : ((List.range g.length).filter (lieB g rs k)).length ≤ g.length := by have := List.length_filter_le (lieB g rs k) (List.range g.length); simpa using this
      rw [hlen]
      rw [hlen] at hI
      have HI := Lib.hid hI
      have HM := Lib.hid (show MarkI w3 W1 wx0 wx0 g rs k 0 from ⟨grownBy_refl _ _, (HW.out.ext hE).congr (fun j _ => by simp), HEa.out.trans hE⟩)
      have HR0 := Lib.hid (show RowB wx0 W1.heap.size g.length fun _ => false from HW.out.ext hE)
      obtain ⟨L, hL⟩ : ∃ L, L = (List.range g.length).filter (lieB g rs k) := ⟨_, rfl⟩
      have HL := Lib.hid hL
      rw [← hL] at HI hll ⊢
      clear hI hE hlen hmk hL
      go_wp2_with fail
      go_loopw [12] (fun i wx => ∃ m : Nat, m ≤ L.length ∧ i = .int .i64 m ∧ Hid (MarkI w3 W1 wx0 wx g rs k m)) (fun i _ => L.length - (intOf i).toNat)
      case atStart => exact ⟨0, Nat.zero_le _, rfl, HM⟩
      case round =>
        clear HM
        obtain ⟨m, hm, rfl, HM⟩ := hrel
        by_cases hml : m < L.length
        · obtain ⟨j, hj⟩ : ∃ j, L[m]? = some j := ⟨_, List.getElem?_eq_getElem hml⟩
          have hjm := List.mem_of_getElem? hj
          have hjl : j < g.length := by rw [HL.out] at hjm; exact List.mem_range.1 (List.mem_filter.1 hjm).1
          obtain ⟨b, off, hxa, hlt2, hc, _, _⟩ := Ints.at (RowB.ints HR0.out HI.out HM.out.gr) hml
          have hnj : nth (numsOf L) m = (j : Int) := by
            rw [nth_eq (by simp [numsOf]; exact hml)]
            have := (List.getElem?_eq_some_iff.1 hj).2
            simp [numsOf, this]
          rw [hnj] at hc
          have hr := HM.out.row.cell hjl
          have hf := HM.out.row.free j
          have HM2 := Lib.hid (HM.out.set (by rw [← HL.out]; exact hj))
          have HI2 := Lib.hid HI.out
          cases hxa
          clear hj hjm hnj HM HI
          go_wp2_with fail
          go_roundw
          case rel => exact ⟨m + 1, by omega, by go_num, HM2⟩
          case measure => simp [intOf]; omega
        · have hrow := HM.out.done (by rw [← HL.out]; omega)
          have hEx := HM.out.ext
          obtain ⟨hTe, rbs, hrl, hO, hrr⟩ := hT.out.later hEx
          have hne : ∀ v0 : Value, TabI w3 W1 g rs v0 k → v0.ownBlock ≠ some W1.heap.size := fun v0 h0 e => by
            obtain ⟨_, _, _, h3, _⟩ := h0
            have := (h3.lt _ e).2
            omega
          have hne := hne _ hT.out
          have Hne := Lib.hid hne
          have Hrow := Lib.hid hrow
          have HTe := Lib.hid hTe
          have Hrr := Lib.hid hrr
          have HO := Lib.hid hO
          have hsz := hTe.size
          clear hrow hTe hrr hO hne hEx
          go_wp2_with (at_builtin; refine wpList_append_list rfl (.tmp 85) (.tmp 87) 63 rfl w3.heap.size 64 i0 (.slice none 0 0) 1 24 Tryz.underlying63 hi hz0 hz1 hz2 rfl (by decide) _ _ rfl (HO.out.later (Ext.alloc _ _)) rfl (rowC_one _ _ _) (rowC_cells _) ?c1 ?c2 ?c3 ?_)
          case c1 => unfold maxLen; simp; omega
          case c2 => simp; omega
          case c3 => simp; omega
          intro v' W2 hO2 hg2 hat2
          have HT2 := Lib.hid (TabI.push HTe.out hrl Hrr.out HO.out Hne.out Hrow.out hO2 hg2 (by rw [World.size_alloc]; exact hat2))
          clear hO2 hg2 hat2
          go_wp2_with fail
          go_roundw
          case rel => exact ⟨k + 1, by omega, by go_num, HT2⟩
          case measure => simp [intOf]; omega
    · have hkn : k = g.length := by omega
      subst hkn
      obtain ⟨ta, tc, rfl, htab⟩ := hT.out.reads h400
      have HE := Lib.hid (HE.out.trans hT.out.ext)
      have HA := Lib.hid (HA.out.mono hT.out.ext)
      have Htab := Lib.hid htab
      clear hT htab hz0 hz1 hz2 hi
      go_wp2_with fail
      go_loopw [13] (fun i wr => ∃ a : Nat, a ≤ g.length ∧ i = .int .i64 a ∧ Hid (Ext w wr ∧ EnvA wr vb g rs ∧ (0 < g.length → ∃ tb, ta = some ⟨tb, 0, none⟩ ∧ TabR wr tb g rs))) (fun i _ => g.length - (intOf i).toNat)
      case atStart => exact ⟨0, Nat.zero_le _, rfl, Lib.hid ⟨HE.out, HA.out, Htab.out⟩⟩
      case round =>
        clear HE HA Htab
        obtain ⟨a, ha, rfl, hH⟩ := hrel
        have HE := Lib.hid hH.out.1
        have HA := Lib.hid hH.out.2.1
        have Htab := Lib.hid hH.out.2.2
        clear hH
        by_cases hal : a < g.length
        rotate_left
        · go_wp2_with fail
          refine (ordered15 _).mono ?_
          rintro e wN ⟨rfl, hE⟩
          have HE := Lib.hid (HE.out.trans hE)
          clear hE
          go_wp2_with fail
          go_ret
          exact ⟨rfl, HE.out⟩
        go_wp2_with fail
        go_loopw [14] (fun i wr => ∃ b : Nat, b ≤ g.length ∧ i = .int .i64 b ∧ Hid (Ext w wr ∧ EnvA wr vb g rs ∧ (0 < g.length → ∃ tb, ta = some ⟨tb, 0, none⟩ ∧ TabR wr tb g rs))) (fun i _ => g.length - (intOf i).toNat)
        case atStart => exact ⟨0, Nat.zero_le _, rfl, Lib.hid ⟨HE.out, HA.out, Htab.out⟩⟩
        case round =>
          clear HE HA Htab
          obtain ⟨b, hb, rfl, hH⟩ := hrel
          have HE := Lib.hid hH.out.1
          have HA := Lib.hid hH.out.2.1
          have Htab := Lib.hid hH.out.2.2
          clear hH
          by_cases hbl : b < g.length
          rotate_left
          · go_wp2_with fail
            go_roundw
            case rel => exact ⟨a + 1, by omega, by go_num, Lib.hid ⟨HE.out, HA.out, Htab.out⟩⟩
            case measure => simp [intOf]; omega
          have Hb := Lib.hid (below_lieB (rs := rs) hal hbl)
          have Ho := Lib.hid (wordR_ok H0.out hal)
          have Ht := Lib.hid (wordR_ok H0.out hbl)
          obtain ⟨s, hs, hs2⟩ := equal_lieB H0.out hal hbl
          have Hs := Lib.hid hs
          have Hs2 := Lib.hid hs2
          have Hw := Lib.hid (fun h => word_lieB (b := b) H0.out hal h)
          have Hab := Lib.hid (show a = b → lieB g rs a b = true from fun h => by subst h; exact refl_lieB H0.out hal)
          have Htr := Lib.hid (fun (h : lieB g rs a b = true) c h2 => trans_lieB (c := c) H0.out hal hbl h h2)
          obtain ⟨tb, rfl, htab⟩ := Htab.out (by omega)
          clear Htab hs hs2
          have HT := Lib.hid htab
          clear htab
          obtain ⟨X, hX⟩ : ∃ X, X = lieB g rs a b := ⟨_, rfl⟩
          obtain ⟨o, ho⟩ : ∃ o, o = isWordB (nth g a).kind := ⟨_, rfl⟩
          obtain ⟨t, ht⟩ : ∃ t, t = isWordB (nth g b).kind := ⟨_, rfl⟩
          rw [← hX] at Hb Hs2 Hw Hab Htr
          rw [← ho] at Ho Hw
          rw [← ht] at Ht Hw
          have HX := Lib.hid hX
          clear hX ho ht
          go_wp2_with fail
          refine (belowV HA.out a b (i64_nat hal h400) (i64_nat hbl h400) _ _ Hb.out).mono ?_
          rintro e w5 ⟨rfl, hE⟩
          have HE := Lib.hid (HE.out.trans hE)
          have HA := Lib.hid (HA.out.mono hE)
          have HT := Lib.hid (HT.out.ext hE)
          clear hE
          go_wp2_with fail
          refine (wordV (Graph.mono HE.out Hg.out) a (i64_nat hal h400) _ _ Ho.out).mono ?_
          rintro e w6 ⟨rfl, hE⟩
          have HE := Lib.hid (HE.out.trans hE)
          have HA := Lib.hid (HA.out.mono hE)
          have HT := Lib.hid (HT.out.ext hE)
          clear hE
          go_wp2_with fail
          refine (wordV (Graph.mono HE.out Hg.out) b (i64_nat hbl h400) _ _ Ht.out).mono ?_
          rintro e w7 ⟨rfl, hE⟩
          have HE := Lib.hid (HE.out.trans hE)
          have HA := Lib.hid (HA.out.mono hE)
          have HT := Lib.hid (HT.out.ext hE)
          clear hE
          go_wp2_with fail
          refine (equalV (Graph.mono HE.out Hg.out) a b (i64_nat hal h400) (i64_nat hbl h400) _ _ Hs.out).mono ?_
          rintro e w8 ⟨rfl, hE⟩
          have HE := Lib.hid (HE.out.trans hE)
          have HA := Lib.hid (HA.out.mono hE)
          have HT := Lib.hid (HT.out.ext hE)
          clear hE
          obtain ⟨rb, r0, r1⟩ := HT.out a hal
          have r2 := r1 b hbl
          rw [← HX.out] at r2
          have hne : a = b ∨ ((a : Int) == (b : Int)) = false := by
            by_cases h : a = b
            · exact Or.inl h
            · right
              rw [beq_eq_false_iff_ne]; omega
          clear r1
          cases X with
          | false =>
            have hsf : s = false := by cases s; rfl; exact absurd (Hs2.out rfl) (by decide)
            have hnab : ((a : Int) == (b : Int)) = false := hne.resolve_left (fun h => absurd (Hab.out h) (by decide))
            subst hsf
            clear hne Hs2 Hw Hab Htr Hb Hs
            go_wp2_with fail
            go_loopw [23] (fun i wr => ∃ c : Nat, c ≤ g.length ∧ i = .int .i64 c ∧ Hid (Ext w wr ∧ EnvA wr vb g rs ∧ TabR wr tb g rs)) (fun i _ => g.length - (intOf i).toNat)
            case atStart => exact ⟨0, Nat.zero_le _, rfl, Lib.hid ⟨HE.out, HA.out, HT.out⟩⟩
            case round =>
              clear HE HA HT
              obtain ⟨c, hc, rfl, hH⟩ := hrel
              have HE := Lib.hid hH.out.1
              have HA := Lib.hid hH.out.2.1
              have HT := Lib.hid hH.out.2.2
              clear hH
              rcases Nat.lt_or_ge c g.length with hcl | hcl
              · go_wp2_with fail
                go_roundw
                case rel => exact ⟨b + 1, by omega, by go_num, Lib.hid ⟨HE.out, HA.out, fun _ => ⟨tb, rfl, HT.out⟩⟩⟩
                case measure => simp [intOf]; omega
              · go_wp2_with fail
                go_roundw
                case rel => exact ⟨b + 1, by omega, by go_num, Lib.hid ⟨HE.out, HA.out, fun _ => ⟨tb, rfl, HT.out⟩⟩⟩
                case measure => simp [intOf]; omega
          | true =>
            have how := Hw.out rfl
            subst how
            have hab2 : ((a : Int) == (b : Int)) = true ∨ ((a : Int) == (b : Int)) = false := by cases ((a : Int) == (b : Int)) <;> simp
            clear hne Hs2 Hw Hab Hb Hs
            rcases hab2 with hab2 | hab2 <;> cases o <;> cases s
            all_goals
              go_wp2_with fail
              go_loopw [23] (fun i wr => ∃ c : Nat, c ≤ g.length ∧ i = .int .i64 c ∧ Hid (Ext w wr ∧ EnvA wr vb g rs ∧ TabR wr tb g rs)) (fun i _ => g.length - (intOf i).toNat)
              case atStart => exact ⟨0, Nat.zero_le _, rfl, Lib.hid ⟨HE.out, HA.out, HT.out⟩⟩
              case round =>
                clear HE HA HT
                obtain ⟨c, hc, rfl, hH⟩ := hrel
                have HE := Lib.hid hH.out.1
                have HA := Lib.hid hH.out.2.1
                have HT := Lib.hid hH.out.2.2
                clear hH
                rcases Nat.lt_or_ge c g.length with hcl | hcl
                rotate_left
                · go_wp2_with fail
                  go_roundw
                  case rel => exact ⟨b + 1, by omega, by go_num, Lib.hid ⟨HE.out, HA.out, fun _ => ⟨tb, rfl, HT.out⟩⟩⟩
                  case measure => simp [intOf]; omega
                obtain ⟨ba, a0, a1⟩ := HT.out a hal
                obtain ⟨bb, b0, b1⟩ := HT.out b hbl
                have a2 := a1 c hcl
                have b2 := b1 c hcl
                clear a1 b1
                have htr := Htr.out (by trivial) c
                cases hbc : lieB g rs b c
                · rw [hbc] at b2
                  clear hbc htr
                  go_wp2_with fail
                  go_roundw
                  case rel => exact ⟨c + 1, by omega, by go_num, Lib.hid ⟨HE.out, HA.out, HT.out⟩⟩
                  case measure => simp [intOf]; omega
                · rw [hbc] at b2
                  rw [htr hbc] at a2
                  clear hbc htr
                  go_wp2_with fail
                  go_roundw
                  case rel => exact ⟨c + 1, by omega, by go_num, Lib.hid ⟨HE.out, HA.out, HT.out⟩⟩
                  case measure => simp [intOf]; omega
end Go.Proofs.YtjffkeoajkhbmaaGreat
