/- What makes an environment right; the two maps that are filled while it is opened. -/
import Derived.Test.YtjffkeoajkhbmaaGreatM22
import Derived.Test.YtjffkeoajkhbmaaGreatM24
namespace Go.Proofs.YtjffkeoajkhbmaaGreat
open Go.RowKit Go.Proofs
set_option linter.unusedSimpArgs false
theorem classIter_le (g : List Ty) : ∀ m i, classIter g m i ≤ i
  | 0, i => leadF_le _ i
  | m + 1, i => leadF_le _ i
theorem classesOf_le (g : List Ty) (i : Nat) : classesOf g i ≤ i := classIter_le g _ i
def fullB (rs : List Reveal) (k : Nat) (name : BA) : Bool := (List.range k).any fun i => (nth rs i).full && (nth rs i).name == name
theorem fullB_succ (rs : List Reveal) (k : Nat) (name : BA) : fullB rs (k + 1) name = (fullB rs k name || ((nth rs k).full && (nth rs k).name == name)) := by
  unfold fullB; rw [List.range_succ, List.any_append]; simp
def badRev (g : List Ty) (rs : List Reveal) (k : Nat) : Bool :=
  !isSymbolB (nth rs k).name || !hasI g.length (nth rs k).type || isWordB (nth g (nth rs k).type.toNat).kind || (nth g (nth rs k).type.toNat).kind == 5 ||
    ((nth rs k).full && (!(nth g (nth rs k).type.toNat).branded || fullB rs k (nth rs k).name))
def openE (g : List Ty) (rs : List Reveal) : Int :=
  if (checkB g).2 = 0 then (if 60 < rs.length then 2 else if (List.range rs.length).any (badRev g rs) then 40 else if circB (succC g (classesOf g) rs) g.length (classesOf g) then 40 else 0) else 30
theorem openE_graph {g : List Ty} {rs : List Reveal} (h : (checkB g).2 = 30) : openE g rs = 30 := by unfold openE; rw [if_neg (by rw [h]; decide)]
theorem openE_many {g : List Ty} {rs : List Reveal} (h : (checkB g).2 = 0) (h6 : 60 < rs.length) : openE g rs = 2 := by unfold openE; rw [if_pos h, if_pos h6]
theorem openE_bad {g : List Ty} {rs : List Reveal} (h : (checkB g).2 = 0) (h6 : ¬ 60 < rs.length) {k : Nat} (hk : k < rs.length) (hb : badRev g rs k = true) : openE g rs = 40 := by
  unfold openE; rw [if_pos h, if_neg h6, if_pos]; simp only [List.any_eq_true, List.mem_range]; exact ⟨k, hk, hb⟩
theorem openE_circ {g : List Ty} {rs : List Reveal} (h : (checkB g).2 = 0) (h6 : ¬ 60 < rs.length) (hb : ∀ k, k < rs.length → badRev g rs k = false) : openE g rs = if circB (succC g (classesOf g) rs) g.length (classesOf g) then 40 else 0 := by
  unfold openE
  rw [if_pos h, if_neg h6, if_neg]
  simp only [List.any_eq_true, List.mem_range, not_exists, not_and, Bool.not_eq_true]
  exact hb
theorem rev_in {g : List Ty} {rs : List Reveal} {k : Nat} (h : badRev g rs k = false) : 0 ≤ (nth rs k).type ∧ (nth rs k).type < g.length := by
  unfold badRev at h
  simp only [Bool.or_eq_false_iff, Bool.not_eq_false'] at h
  exact hasI_iff.1 h.1.1.1.2
structure OpInv (w W2 wr : World) (mb mf : Nat) (rs : List Reveal) (kb kf : Nat) (m : List (BA × Value)) : Prop where
  blk : ∀ j, j < W2.heap.size → j ≠ mb → j ≠ mf → wr.heap[j]? = W2.heap[j]?
  ext : Ext w wr
  size : W2.heap.size ≤ wr.heap.size
  ne : mb ≠ mf
  lob : w.heap.size ≤ mb ∧ mb < W2.heap.size
  lof : w.heap.size ≤ mf ∧ mf < W2.heap.size
  maps : ∀ a v, W2.cell? a = some v → a.block ≠ mb ∧ a.block ≠ mf
  at_ : MapAt Value.string wr mb m
  rows : ∀ name, wr.ownsRow W2.heap.size 3 1 ((alook name m).getD (.slice none 0 0)) (byN rs kb name).length ((numsOf (byN rs kb name)).map (Value.int .i64))
  dis : ∀ n1 n2 b, n1 ≠ n2 → ((alook n1 m).getD (.slice none 0 0)).ownBlock = some b → ((alook n2 m).getD (.slice none 0 0)).ownBlock ≠ some b
  full : ∃ m, MapAt Value.string wr mf m ∧ ∀ name, (alook name m).getD (.bool false) = .bool (fullB rs kf name)
theorem OpInv.le {w W2 wr : World} {mb mf : Nat} {rs : List Reveal} {kb kf : Nat} {m : List (BA × Value)} (h : OpInv w W2 wr mb mf rs kb kf m) : CellLe W2 wr := fun a v hc =>
  (World.cell?_of_block (w := W2) (w' := wr) (h.blk a.block (cell_lt hc) (h.maps a v hc).1 (h.maps a v hc).2)).trans hc
theorem OpInv.grow {w W2 wr wr' : World} {mb mf : Nat} {rs : List Reveal} {kb kf : Nat} {m : List (BA × Value)} (h : OpInv w W2 wr mb mf rs kb kf m) (hE : Ext wr wr') : OpInv w W2 wr' mb mf rs kb kf m := by
  obtain ⟨m', h4, h5⟩ := h.full
  exact ⟨fun j hj h1 h2 => (hE.block j (Nat.lt_of_lt_of_le hj h.size)).trans (h.blk j hj h1 h2), h.ext.trans hE, Nat.le_trans h.size hE.size, h.ne, h.lob, h.lof, h.maps, h.at_.ext hE, fun name => owns_ext (h.rows name) hE, h.dis, ⟨m', h4.ext hE, h5⟩⟩
theorem cellLe_grown {W2 wr wr' : World} {b : Option Nat} (h : CellLe W2 wr) (hg : wr.grownBy wr' b) (hb : ∀ a v, W2.cell? a = some v → some a.block ≠ b) : CellLe W2 wr' := fun a v hc =>
  (World.cell?_of_block (w := wr) (w' := wr') (hg.block a.block (cell_lt (h a v hc)) (hb a v hc))).trans (h a v hc)
theorem cellLe_map {w w' : World} {b : Nat} {P : List (BA × Value) → Prop} (h : ∃ m, MapAt Value.string w b m ∧ P m) (hg : w.grownBy w' (some b)) : CellLe w w' := fun a v hc => by
  obtain ⟨m, ⟨es, clock, hb, _⟩, _⟩ := h
  refine (World.cell?_of_block (w := w) (w' := w') (hg.block a.block (cell_lt hc) (fun e => ?_))).trans hc
  have e := Option.some.inj e
  unfold World.cell? at hc
  rw [e, hb] at hc
  simp at hc
theorem OpInv.setFull {w W2 wr : World} {mb mf : Nat} {rs : List Reveal} {k : Nat} {m : List (BA × Value)} (h : OpInv w W2 wr mb mf rs k k m) (b : Bool) (hb : b = (fullB rs k (nth rs k).name || (nth rs k).full)) :
    ∃ wr', (Instr.mapUpdate 143 (.map (some mf)) (.string (nth rs k).name) (.bool b)).run Tryz.prog wr = .ok () wr' ∧ OpInv w W2 wr' mb mf rs k (k + 1) m ∧ wr.grownBy wr' (some mf) := by
  obtain ⟨m', h4, h5⟩ := h.full
  obtain ⟨wr', hrun, hM, hg, hs⟩ := h4.update Tryz.underlying143 keyString (nth rs k).name (.bool b)
  refine ⟨wr', hrun, ⟨fun j hj h1 h2 => (hg.block j (Nat.lt_of_lt_of_le hj h.size) (fun e => h2 (Option.some.inj e))).trans (h.blk j hj h1 h2), h.ext.grown hg h.ext.size (fun q e => by cases e; exact h.lof.1), by rw [hs]; exact h.size, h.ne, h.lob, h.lof, h.maps,
    h.at_.same (hg.block mb h.at_.lt (fun e => h.ne (Option.some.inj e))), fun name => (h.rows name).kept hg ?_, h.dis, ⟨_, hM, fun name => ?_⟩⟩, hg⟩
  · right
    intro e
    have := ((h.rows name).lt mf e).1
    have := h.lof.2
    omega
  · rw [alook_aput, fullB_succ]
    by_cases hn : name = (nth rs k).name
    · rw [if_pos hn, hb, ← hn]; simp
    · rw [if_neg hn, h5 name, beq_eq_false_iff_ne.2 (fun e => hn e.symm), Bool.and_false, Bool.or_false]
theorem OpInv.lookFull {w W2 wr : World} {mb mf : Nat} {rs : List Reveal} {kb kf : Nat} {m : List (BA × Value)} (h : OpInv w W2 wr mb mf rs kb kf m) (name : BA) :
    (Instr.lookup 143 (.map (some mf)) (.string name) false).run Tryz.prog wr = .ok (.bool (fullB rs kf name)) wr := by
  obtain ⟨m', h4, h5⟩ := h.full
  rw [h4.lookup Tryz.underlying143 keyString name zero4, h5]
theorem OpInv.lookBy {w W2 wr : World} {mb mf : Nat} {rs : List Reveal} {kb kf : Nat} {m : List (BA × Value)} (h : OpInv w W2 wr mb mf rs kb kf m) (name : BA) :
    (Instr.lookup 100 (.map (some mb)) (.string name) false).run Tryz.prog wr = .ok ((alook name m).getD (.slice none 0 0)) wr := h.at_.lookup Tryz.underlying100 keyString name zero35
theorem numsOf_snoc (l : List Nat) (k : Nat) : numsOf (l ++ [k]) = numsOf l ++ [(k : Int)] := by unfold numsOf; simp
theorem OpInv.setBy {w W2 wr w1 : World} {mb mf : Nat} {rs : List Reveal} {k kf : Nat} {m : List (BA × Value)} {v' : Value} (h : OpInv w W2 wr mb mf rs k kf m)
    (hown : w1.ownsRow W2.heap.size 3 1 v' ((byN rs k (nth rs k).name).length + 1) ((numsOf (byN rs k (nth rs k).name)).map (Value.int .i64) ++ [.int .i64 k]))
    (hg : wr.grownBy w1 ((alook (nth rs k).name m).getD (.slice none 0 0)).ownBlock) (hat : v'.ownBlock = ((alook (nth rs k).name m).getD (.slice none 0 0)).ownBlock ∨ v'.ownBlock = some wr.heap.size) :
    ∃ w2, (Instr.mapUpdate 100 (.map (some mb)) (.string (nth rs k).name) v').run Tryz.prog w1 = .ok () w2 ∧ (∃ m', OpInv w W2 w2 mb mf rs (k + 1) kf m') ∧ w1.grownBy w2 (some mb) := by
  have hrow := h.rows (nth rs k).name
  have hsz := h.size
  have hnb : some mb ≠ ((alook (nth rs k).name m).getD (.slice none 0 0)).ownBlock := fun e => by have := (hrow.lt mb e.symm).1; have := h.lob.2; omega
  have hnf : some mf ≠ ((alook (nth rs k).name m).getD (.slice none 0 0)).ownBlock := fun e => by have := (hrow.lt mf e.symm).1; have := h.lof.2; omega
  have hM1 : MapAt Value.string w1 mb m := h.at_.same (hg.block mb h.at_.lt hnb)
  obtain ⟨w2, hrun, hM, hg2, hs2⟩ := hM1.update Tryz.underlying100 keyString (nth rs k).name v'
  obtain ⟨mF, h4, h5⟩ := h.full
  have hF1 : MapAt Value.string w1 mf mF := h4.same (hg.block mf h4.lt hnf)
  have hle1 : ∀ j, j < W2.heap.size → j ≠ mb → j ≠ mf → w1.heap[j]? = W2.heap[j]? := fun j hj h1 h2 => (hg.block j (Nat.lt_of_lt_of_le hj h.size) (fun e => by have := (hrow.lt j e.symm).1; omega)).trans (h.blk j hj h1 h2)
  have hext1 : Ext w w1 := h.ext.grown hg h.ext.size (fun q e => by have := (hrow.lt q e).1; have := h.lob; omega)
  have hbk : ∀ name, ((alook name (aput (nth rs k).name v' m)).getD (.slice none 0 0)) = if name = (nth rs k).name then v' else (alook name m).getD (.slice none 0 0) := by
    intro name
    rw [alook_aput]
    split <;> rfl
  refine ⟨w2, hrun, ⟨_, ⟨fun j hj h1 h2 => (hg2.block j (Nat.lt_of_lt_of_le hj (Nat.le_trans h.size hg.size)) (fun e => h1 (Option.some.inj e))).trans (hle1 j hj h1 h2), hext1.grown hg2 hext1.size (fun q e => by cases e; exact h.lob.1), by have := hg.size; have := hg2.size; omega, h.ne, h.lob, h.lof, h.maps, hM, fun name => ?_, fun n1 n2 b hn h1 h2 => ?_,
    ⟨mF, hF1.same (hg2.block mf hF1.lt (fun e => h.ne (Option.some.inj e).symm)), h5⟩⟩⟩, hg2⟩
  · rw [hbk]
    by_cases hn : name = (nth rs k).name
    · rw [if_pos hn, hn, byN_hit rs k _ (by simp), numsOf_snoc, List.map_append, List.length_append]
      refine hown.kept hg2 (Or.inr fun e => ?_)
      have := (hown.lt mb e).1
      have := h.lob.2
      omega
    · rw [if_neg hn, byN_miss rs k _ (beq_eq_false_iff_ne.2 (fun e => hn e.symm))]
      refine ((h.rows name).kept hg ?_).kept hg2 (Or.inr fun e => ?_)
      · cases hv : ((alook name m).getD (.slice none 0 0)).ownBlock with
        | none => exact Or.inl rfl
        | some b =>
          right
          intro e
          exact h.dis name (nth rs k).name b hn hv e.symm
      · have := ((h.rows name).lt mb e).1
        have := h.lob.2
        omega
  · rw [hbk] at h1 h2
    have key : ∀ n, n ≠ (nth rs k).name → ∀ b, ((alook n m).getD (.slice none 0 0)).ownBlock = some b → v'.ownBlock ≠ some b := fun n hn b hb he => by
      rcases hat with ha | ha
      · rw [ha] at he
        exact h.dis n (nth rs k).name b hn hb he
      · rw [ha] at he
        have := ((h.rows n).lt b hb).2
        cases he
        omega
    by_cases c1 : n1 = (nth rs k).name
    · by_cases c2 : n2 = (nth rs k).name
      · exact hn (c1.trans c2.symm)
      · rw [if_pos c1] at h1
        rw [if_neg c2] at h2
        exact key n2 c2 b h2 h1
    · rw [if_neg c1] at h1
      by_cases c2 : n2 = (nth rs k).name
      · rw [if_pos c2] at h2
        exact key n1 c1 b h1 h2
      · rw [if_neg c2] at h2
        exact h.dis n1 n2 b hn h1 h2
theorem wp_append_own_at {P : Program} {o : Oper} {a : Act} {w : World} {K : Act → World → Prop} {Q : Exit → Act → World → Prop} (s x : Operand) (t : TypeId)
    (ho : o.op = .call { callee := .builtin .append, args := #[s, x], argTypes := #[t, t] })
    (base : Nat) (e : TypeId) (i : TypeInfo) (z : Value) (size bytes : Nat) (ht : P.underlying t = some (.slice e)) (hi : P.info? e = some i) (hz : i.zero = some z)
    (hsize : i.size = size) (hby : i.bytes = bytes) (hzs : z.cells.size = size) (hsz : 0 < size)
    (v : Value) (n : Nat) (xs : List Value) (hs : a.eval s = v) (hown : w.ownsRow base e size v n xs)
    (ad : Addr) (m c : Nat) (news : List Value) (hx : a.eval x = .slice (some ad) m c) (hl : news.length = m * size) (hnews : ∀ j u, news[j]? = some u → w.cell? (ad.add j) = some u) (h1 : ∀ u ∈ news, u.oneCell' = true)
    (h63 : n + m ≤ maxLen) (hbytes : (n + m) * bytes ≤ 140737488355328) (hbase : base ≤ w.heap.size)
    (h : ∀ v' w', w'.ownsRow base e size v' (n + m) (xs ++ news) → w.grownBy w' v.ownBlock → (v'.ownBlock = v.ownBlock ∨ v'.ownBlock = some w.heap.size) → K (a.put o.dst v') w') :
    o.wp P a w K Q := by
  obtain ⟨v', w', hr, h2, h3, h4, h5⟩ := run_append_own_at (P := P) w base t o.type e i z size bytes ht hi hz hsize hby hzs hsz v n xs hown ad m c news hl hnews h1 h63 hbytes hbase
  unfold Oper.wp execOp
  simp only [ho, resolve, invoke, builtin, Sem.run_bind, Sem.run_pure, Result.andThen_ok, List.map_toArray, List.map_cons, List.map_nil, hs, hx, hr]
  exact h v' w' h2 h3 h5
end Go.Proofs.YtjffkeoajkhbmaaGreat
