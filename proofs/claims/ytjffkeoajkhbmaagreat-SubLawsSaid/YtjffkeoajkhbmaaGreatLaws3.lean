/- How the data of a call read as graphs and revelations. What joins a law to its row: the arguments opened. The law SubLaws holds: for every input it answers true, and its arguments read as before. -/
import Derived.ProofKit
import Derived.SizedLaws
import Derived.Test.YtjffkeoajkhbmaaGreatRows
import Derived.OpenShut
import Derived.ShutString
import Derived.ChangeOld
import Derived.Below
import Derived.Carry
import Derived.Test.YtjffkeoajkhbmaaGreatLaws0
import Derived.Test.YtjffkeoajkhbmaaGreatLaws2
import Derived.Test.YtjffkeoajkhbmaaGreatM0
namespace Go.Proofs.YtjffkeoajkhbmaaGreat
open Go.RowKit Go.Proofs
set_option linter.unusedSimpArgs false
section
variable {H : Type} {enc : TypeId × Value → H} {W : World}
def Fits (P : Program) (t : TypeId) (d : DataW H) : Prop := ∀ n, n ∈ d.weights P t → n ≤ reachBytes
theorem reach_max : reachBytes = maxBytes := by decide
theorem fits_each {P : Program} {ts : List TypeId} {ds : List (DataW H)} (h : ∀ n, n ∈ DataW.weightsEach P ts ds → n ≤ reachBytes) {j : Nat} {t : TypeId} {d : DataW H} (ht : ts[j]? = some t) (hd : ds[j]? = some d) : Fits P t d :=
  fun n hn => h n (DataW.weights_mem_each ht hd n hn)
theorem weights_all {P : Program} {e : TypeId} : ∀ {ds : List (DataW H)} {i : Nat} {d : DataW H}, ds[i]? = some d → ∀ n, n ∈ d.weights P e → n ∈ DataW.weightsAll P e ds
  | d0 :: ds, 0, d, hd, n, hn => by
    simp only [List.getElem?_cons_zero, Option.some.injEq] at hd
    subst hd
    simp only [DataW.weightsAll, List.mem_append]
    exact Or.inl hn
  | d0 :: ds, i + 1, d, hd, n, hn => by
    simp only [List.getElem?_cons_succ] at hd
    simp only [DataW.weightsAll, List.mem_append]
    exact Or.inr (weights_all hd n hn)
  | [], _, _, hd, _, _ => by simp at hd
theorem pick_list {α : Type} (n : Nat) (Q : Nat → α → Prop) (h : ∀ i, i < n → ∃ x, Q i x) : ∃ xs : List α, xs.length = n ∧ ∀ i x, xs[i]? = some x → Q i x := by
  induction n with
  | zero => exact ⟨[], rfl, fun i x hx => by simp at hx⟩
  | succ n ih =>
    obtain ⟨xs, hl, hx⟩ := ih (fun i hi => h i (by omega))
    obtain ⟨y, hy⟩ := h n (by omega)
    refine ⟨xs ++ [y], by simp [hl], fun i x hi => ?_⟩
    by_cases hin : i < n
    · rw [List.getElem?_append_left (by omega)] at hi
      exact hx i x hi
    · have hi2 := (List.getElem?_eq_some_iff.1 hi).1
      simp at hi2
      have : i = n := by omega
      subst this
      rw [List.getElem?_append_right (by omega), hl] at hi
      simp at hi
      rw [← hi]; exact hy
theorem open_slw {α : Type} (R : World → α → List Value → Prop) (sz : Nat) {t e : TypeId} {fuel : Nat} {cs : List Value} {x : DataW H × List MemPlace} (ht : Tryz.prog.underlying t = some (.slice e)) (hsz : Tryz.prog.cellsOf e = sz) (hpos : 0 < sz) (hby : 8 * sz ≤ Tryz.prog.bytesOf e)
    (hel : ∀ n cs y, DataW.trod enc Tryz.prog W 0 (fun _ => true) true n e cs = some y → Fits Tryz.prog e y.1 → ∃ x, R W x cs ∧ cs.length = sz)
    (h : DataW.trod enc Tryz.prog W 0 (fun _ => true) true fuel t cs = some x) (hf : Fits Tryz.prog t x.1) : ∃ v xs, cs = [v] ∧ SlW R sz W v xs := by
  rcases DataW.trod_slice ht h with ⟨rfl, rfl⟩ | ⟨a, len, cap, elems, rest, n, rfl, rfl, rfl, -, hlc, hcm, hlen, hall, -, -⟩
  · exact ⟨_, [], rfl, SlW.nil _ _ _⟩
  · subst hsz
    have hw : (elems.length + rest.length) * Tryz.prog.bytesOf e ≤ reachBytes := hf _ (by simp [DataW.weights, ht])
    have hfe : ∀ (i : Nat) (y : DataW H × List MemPlace), elems[i]? = some y → Fits Tryz.prog e y.1 := fun i y hy m hm => by
      refine hf m ?_
      simp only [DataW.weights, ht, List.mem_cons, List.mem_append]
      exact Or.inr (Or.inl (weights_all (i := i) (d := y.1) (by simp [hy]) m hm))
    have hspot : 0 < len → a.spot = none := fun h0 => by
      obtain ⟨y, hy⟩ : ∃ y, elems[0]? = some y := ⟨_, List.getElem?_eq_getElem (by omega)⟩
      have h1 := hall 0 h0
      rw [hy, Nat.zero_mul] at h1
      cases hc : W.cells? 0 (a.add 0) (Tryz.prog.cellsOf e) with
      | none => rw [hc] at h1; cases h1
      | some cs =>
        obtain ⟨-, hl0, hcell⟩ := World.cells?_some hc
        have hh := hcell 0 (by omega)
        rw [List.getElem?_eq_getElem (by omega)] at hh
        have h2 := World.cell?_spot hh
        simpa [Addr.add] using h2
    obtain ⟨xs, hxl, hxs⟩ := pick_list len (fun i x => ∃ b off cs, a = ⟨b, off, none⟩ ∧ R W x cs ∧ cs.length = Tryz.prog.cellsOf e ∧ ∀ j u, cs[j]? = some u → W.cell? ⟨b, off + i * Tryz.prog.cellsOf e + j, none⟩ = some u) (fun i hi => by
      obtain ⟨y, hy⟩ : ∃ y, elems[i]? = some y := ⟨_, List.getElem?_eq_getElem (by omega)⟩
      have h1 := hall i hi
      rw [hy] at h1
      cases hc : W.cells? 0 (a.add (i * Tryz.prog.cellsOf e)) (Tryz.prog.cellsOf e) with
      | none => rw [hc] at h1; cases h1
      | some cs =>
        rw [hc] at h1
        obtain ⟨x, hx, hl⟩ := hel n cs y h1 (hfe i y hy)
        obtain ⟨-, -, hcell⟩ := World.cells?_some hc
        obtain ⟨b, off, spot⟩ := a
        have hs : spot = none := hspot (by omega)
        subst hs
        refine ⟨x, b, off, cs, rfl, hx, hl, fun j u hj => ?_⟩
        have hjl : j < Tryz.prog.cellsOf e := by have := (List.getElem?_eq_some_iff.1 hj).1; omega
        have := hcell j hjl
        rw [hj] at this
        rw [Addr.add_lit, Addr.add_lit] at this
        exact this)
    refine ⟨_, xs, rfl, some a, cap, by rw [hxl], by omega, ?_, fun i x hx => ?_⟩
    · rw [← reach_max, hxl]
      refine Nat.le_trans ?_ hw
      exact Nat.mul_le_mul (by omega) hby
    · obtain ⟨b, off, cs, ha, h1, h2, h3⟩ := hxs i x hx
      exact ⟨b, off, cs, by rw [ha], h1, h2, h3⟩
theorem read_int {t : TypeId} {k : IntKind} (ht : Tryz.prog.underlying t = some (.int k)) {n : Nat} {cs : List Value} {y : DataW H × List MemPlace} (h : DataW.trod enc Tryz.prog W 0 (fun _ => true) true n t cs = some y) : ∃ x : Int, cs = [.int k x] ∧ (Lit.int k x).wf = true := by
  obtain ⟨x, h1, -, h3⟩ := DataW.trod_int ht h
  exact ⟨x, h1, h3⟩
set_option maxRecDepth 100000 in
theorem read_str {t : TypeId} (ht : Tryz.prog.underlying t = some .string) {n : Nat} {cs : List Value} {y : DataW H × List MemPlace} (h : DataW.trod enc Tryz.prog W 0 (fun _ => true) true n t cs = some y) (hf : Fits Tryz.prog t y.1) : ∃ s : BA, cs = [.string s] ∧ s.size ≤ maxBytes := by
  obtain ⟨s, h1, rfl, -⟩ := DataW.trod_string ht h
  refine ⟨s, h1, ?_⟩
  have := hf s.data.toList.length (by simp [DataW.weights])
  rw [← reach_max]
  simpa using this
theorem read_bool {t : TypeId} (ht : Tryz.prog.underlying t = some .bool) {n : Nat} {cs : List Value} {y : DataW H × List MemPlace} (h : DataW.trod enc Tryz.prog W 0 (fun _ => true) true n t cs = some y) : ∃ b : Bool, cs = [.bool b] := by
  obtain ⟨b, h1, -⟩ := DataW.trod_bool ht h
  exact ⟨b, h1⟩
set_option maxRecDepth 100000 in
theorem wf_i64 {x : Int} (h : (Lit.int .i64 x).wf = true) : -9223372036854775808 ≤ x ∧ x ≤ 9223372036854775807 := by
  simp [Lit.wf, IntKind.min, IntKind.max, IntKind.signed, IntKind.bits] at h
  omega
theorem wf_u8 {x : Int} (h : (Lit.int .u8 x).wf = true) : 0 ≤ x ∧ x ≤ 255 := by
  simp [Lit.wf, IntKind.min, IntKind.max, IntKind.signed, IntKind.bits] at h
  omega
theorem open_fields {t : TypeId} {fs : Array Field} (ht : Tryz.prog.underlying t = some (.struct fs)) {n : Nat} {cs : List Value} {y : DataW H × List MemPlace} (h : DataW.trod enc Tryz.prog W 0 (fun _ => true) true n t cs = some y) (hf : Fits Tryz.prog t y.1) :
    cs.length = Tryz.prog.cellsOf t ∧ ∀ (i : Nat) (ft : TypeId) (off : Nat), (fs[i]?).map (fun f => (f.type, f.offset)) = some (ft, off) → ∃ m z, DataW.trod enc Tryz.prog W 0 (fun _ => true) true m ft ((cs.drop off).take (Tryz.prog.cellsOf ft)) = some z ∧ Fits Tryz.prog ft z.1 := by
  obtain ⟨xs, m, rfl, rfl, hl, hxl, hall⟩ := DataW.trod_struct ht h
  refine ⟨hl, fun i ft off hfo => ?_⟩
  obtain ⟨f, hi, hfe⟩ := Option.map_eq_some_iff.1 hfo
  cases hfe
  have h1 := hall i f hi
  have hil : i < fs.size := (Array.getElem?_eq_some_iff.1 hi).1
  obtain ⟨z, hz⟩ : ∃ z, xs[i]? = some z := ⟨_, List.getElem?_eq_getElem (by omega)⟩
  rw [hz] at h1
  refine ⟨m, z, h1, fits_each (ts := fs.toList.map (·.type)) (ds := xs.map (·.1)) (fun q hq => hf q ?_) (j := i) (by simp [hi]) (by simp [hz])⟩
  simp only [DataW.weights, ht]
  exact hq
theorem c3 : Tryz.prog.cellsOf 3 = 1 := by kernel_rfl
theorem c4 : Tryz.prog.cellsOf 4 = 1 := by kernel_rfl
theorem c5 : Tryz.prog.cellsOf 5 = 1 := by kernel_rfl
theorem c9 : Tryz.prog.cellsOf 9 = 1 := by kernel_rfl
theorem c35 : Tryz.prog.cellsOf 35 = 1 := by kernel_rfl
theorem c84 : Tryz.prog.cellsOf 84 = 1 := by kernel_rfl
theorem c46 : Tryz.prog.cellsOf 46 = 1 := by kernel_rfl
theorem c47 : Tryz.prog.cellsOf 47 = 1 := by kernel_rfl
theorem c48 : Tryz.prog.cellsOf 48 = 1 := by kernel_rfl
theorem c83 : Tryz.prog.cellsOf 83 = 2 := by kernel_rfl
theorem c86 : Tryz.prog.cellsOf 86 = 3 := by kernel_rfl
theorem c88 : Tryz.prog.cellsOf 88 = 5 := by kernel_rfl
theorem c169 : Tryz.prog.cellsOf 169 = 2 := by kernel_rfl
theorem c43 : Tryz.prog.cellsOf 43 = 3 := by kernel_rfl
theorem c50 : Tryz.prog.cellsOf 50 = 10 := by kernel_rfl
theorem c93 : Tryz.prog.cellsOf 93 = 3 := by kernel_rfl
theorem open_ints35 {n : Nat} {cs : List Value} {y : DataW H × List MemPlace} (h : DataW.trod enc Tryz.prog W 0 (fun _ => true) true n 35 cs = some y) (hf : Fits Tryz.prog 35 y.1) : ∃ v xs, cs = [v] ∧ Ints W v xs :=
  open_slw IsInt 1 Tryz.underlying35 c3 (by decide) (of_decide_eq_true (by kernel_rfl)) (fun m cs y h _ => by
    obtain ⟨x, rfl, hw⟩ := read_int Tryz.underlying3 h
    exact ⟨x, ⟨rfl, wf_i64 hw⟩, rfl⟩) h hf
theorem open_strs84 {n : Nat} {cs : List Value} {y : DataW H × List MemPlace} (h : DataW.trod enc Tryz.prog W 0 (fun _ => true) true n 84 cs = some y) (hf : Fits Tryz.prog 84 y.1) : ∃ v xs, cs = [v] ∧ Strs W v xs :=
  open_slw IsStr 1 Tryz.underlying84 c9 (by decide) (of_decide_eq_true (by kernel_rfl)) (fun m cs y h hf => by
    obtain ⟨s, rfl, hs⟩ := read_str Tryz.underlying9 h hf
    exact ⟨s, ⟨rfl, hs⟩, rfl⟩) h hf
theorem take_one {cs : List Value} {v : Value} {k : Nat} (h : (cs.drop k).take 1 = [v]) : cs[k]? = some v := by
  have := congrArg (fun l => l[0]?) h
  simpa using this
theorem list_of {cs : List Value} : ∀ (vs : List Value), cs.length = vs.length → (∀ (i : Nat) (v : Value), vs[i]? = some v → cs[i]? = some v) → cs = vs := fun vs hl h => by
  apply List.ext_getElem? 
  intro i
  by_cases hi : i < vs.length
  · rw [h i _ (List.getElem?_eq_getElem hi), List.getElem?_eq_getElem hi]
  · rw [List.getElem?_eq_none (by omega), List.getElem?_eq_none (by omega)]
theorem open_part {n : Nat} {cs : List Value} {y : DataW H × List MemPlace} (h : DataW.trod enc Tryz.prog W 0 (fun _ => true) true n 83 cs = some y) (hf : Fits Tryz.prog 83 y.1) : ∃ x, IsPart W x cs ∧ cs.length = 2 := by
  obtain ⟨hl, hall⟩ := open_fields Tryz.underlying83 h hf
  rw [c83] at hl
  obtain ⟨m0, z0, h0, f0⟩ := hall 0 9 0 rfl
  obtain ⟨m1, z1, h1, f1⟩ := hall 1 3 1 rfl
  obtain ⟨s, e0, hs⟩ := read_str Tryz.underlying9 h0 f0
  obtain ⟨x, e1, hx⟩ := read_int Tryz.underlying3 h1
  rw [c9] at e0
  rw [c3] at e1
  have e0 := take_one e0
  have e1 := take_one e1
  refine ⟨⟨s, x⟩, ⟨list_of _ hl (fun i v hv => ?_), hs, wf_i64 hx⟩, hl⟩
  match i, hv with
  | 0, hv => cases hv; exact e0
  | 1, hv => cases hv; exact e1
theorem open_over {n : Nat} {cs : List Value} {y : DataW H × List MemPlace} (h : DataW.trod enc Tryz.prog W 0 (fun _ => true) true n 169 cs = some y) (hf : Fits Tryz.prog 169 y.1) : ∃ x, IsOver W x cs ∧ cs.length = 2 := by
  obtain ⟨hl, hall⟩ := open_fields Tryz.underlying169 h hf
  rw [c169] at hl
  obtain ⟨m0, z0, h0, f0⟩ := hall 0 9 0 rfl
  obtain ⟨m1, z1, h1, f1⟩ := hall 1 9 1 rfl
  obtain ⟨s, e0, hs⟩ := read_str Tryz.underlying9 h0 f0
  obtain ⟨x, e1, hx⟩ := read_str Tryz.underlying9 h1 f1
  rw [c9] at e0 e1
  have e0 := take_one e0
  have e1 := take_one e1
  refine ⟨⟨s, x⟩, ⟨list_of _ hl (fun i v hv => ?_), hs, hx⟩, hl⟩
  match i, hv with
  | 0, hv => cases hv; exact e0
  | 1, hv => cases hv; exact e1
theorem open_reveal {n : Nat} {cs : List Value} {y : DataW H × List MemPlace} (h : DataW.trod enc Tryz.prog W 0 (fun _ => true) true n 43 cs = some y) (hf : Fits Tryz.prog 43 y.1) : ∃ x, IsReveal W x cs ∧ cs.length = 3 := by
  obtain ⟨hl, hall⟩ := open_fields Tryz.underlying43 h hf
  rw [c43] at hl
  obtain ⟨m0, z0, h0, f0⟩ := hall 0 9 0 rfl
  obtain ⟨m1, z1, h1, f1⟩ := hall 1 4 1 rfl
  obtain ⟨m2, z2, h2, f2⟩ := hall 2 3 2 rfl
  obtain ⟨s, e0, hs⟩ := read_str Tryz.underlying9 h0 f0
  obtain ⟨b, e1⟩ := read_bool Tryz.underlying4 h1
  obtain ⟨x, e2, hx⟩ := read_int Tryz.underlying3 h2
  rw [c9] at e0
  rw [c4] at e1
  rw [c3] at e2
  have e0 := take_one e0
  have e1 := take_one e1
  have e2 := take_one e2
  refine ⟨⟨s, b, x⟩, ⟨list_of _ hl (fun i v hv => ?_), hs, wf_i64 hx⟩, hl⟩
  match i, hv with
  | 0, hv => cases hv; exact e0
  | 1, hv => cases hv; exact e1
  | 2, hv => cases hv; exact e2
theorem open_meth {n : Nat} {cs : List Value} {y : DataW H × List MemPlace} (h : DataW.trod enc Tryz.prog W 0 (fun _ => true) true n 88 cs = some y) (hf : Fits Tryz.prog 88 y.1) : ∃ x, IsMeth W x cs ∧ cs.length = 5 := by
  obtain ⟨hl, hall⟩ := open_fields Tryz.underlying88 h hf
  rw [c88] at hl
  obtain ⟨m0, z0, h0, f0⟩ := hall 0 9 0 rfl
  obtain ⟨m1, z1, h1, f1⟩ := hall 1 86 1 rfl
  obtain ⟨m2, z2, h2, f2⟩ := hall 2 9 4 rfl
  obtain ⟨s, e0, hs⟩ := read_str Tryz.underlying9 h0 f0
  obtain ⟨p, e4, hp⟩ := read_str Tryz.underlying9 h2 f2
  obtain ⟨-, hsig⟩ := open_fields Tryz.underlying86 h1 f1
  obtain ⟨n0, y0, g0, k0⟩ := hsig 0 35 0 rfl
  obtain ⟨n1, y1, g1, k1⟩ := hsig 1 3 1 rfl
  obtain ⟨n2, y2, g2, k2⟩ := hsig 2 84 2 rfl
  obtain ⟨av, args, e1, ha⟩ := open_ints35 g0 k0
  obtain ⟨res, e2, hr⟩ := read_int Tryz.underlying3 g1
  obtain ⟨rv, raises, e3, hra⟩ := open_strs84 g2 k2
  rw [c9] at e0 e4
  rw [c35, c86] at e1
  rw [c3, c86] at e2
  rw [c84, c86] at e3
  have e0 := take_one e0
  have e4 := take_one e4
  have e1 : cs[1]? = some av := by have := take_one e1; simpa using this
  have e2 : cs[2]? = some (.int .i64 res) := by have := take_one e2; simpa using this
  have e3 : cs[3]? = some rv := by have := take_one e3; simpa using this
  refine ⟨⟨s, ⟨args, res, raises⟩, p⟩, ⟨av, rv, list_of _ hl (fun i v hv => ?_), ha, hra, (wf_i64 hr).1, (wf_i64 hr).2, hs, hp⟩, hl⟩
  match i, hv with
  | 0, hv => cases hv; exact e0
  | 1, hv => cases hv; exact e1
  | 2, hv => cases hv; exact e2
  | 3, hv => cases hv; exact e3
  | 4, hv => cases hv; exact e4
theorem open_parts {n : Nat} {cs : List Value} {y : DataW H × List MemPlace} (h : DataW.trod enc Tryz.prog W 0 (fun _ => true) true n 46 cs = some y) (hf : Fits Tryz.prog 46 y.1) : ∃ v xs, cs = [v] ∧ Parts W v xs :=
  open_slw IsPart 2 Tryz.underlying46 c83 (by decide) (of_decide_eq_true (by kernel_rfl)) (fun m cs y h hf => open_part h hf) h hf
theorem open_meths {n : Nat} {cs : List Value} {y : DataW H × List MemPlace} (h : DataW.trod enc Tryz.prog W 0 (fun _ => true) true n 47 cs = some y) (hf : Fits Tryz.prog 47 y.1) : ∃ v xs, cs = [v] ∧ Meths W v xs :=
  open_slw IsMeth 5 Tryz.underlying47 c88 (by decide) (of_decide_eq_true (by kernel_rfl)) (fun m cs y h hf => open_meth h hf) h hf
theorem open_overs {n : Nat} {cs : List Value} {y : DataW H × List MemPlace} (h : DataW.trod enc Tryz.prog W 0 (fun _ => true) true n 48 cs = some y) (hf : Fits Tryz.prog 48 y.1) : ∃ v xs, cs = [v] ∧ Overs W v xs :=
  open_slw IsOver 2 Tryz.underlying48 c169 (by decide) (of_decide_eq_true (by kernel_rfl)) (fun m cs y h hf => open_over h hf) h hf
theorem open_ty {n : Nat} {cs : List Value} {y : DataW H × List MemPlace} (h : DataW.trod enc Tryz.prog W 0 (fun _ => true) true n 50 cs = some y) (hf : Fits Tryz.prog 50 y.1) : ∃ x, IsTy W x cs ∧ cs.length = 10 := by
  obtain ⟨hl, hall⟩ := open_fields Tryz.underlying50 h hf
  rw [c50] at hl
  obtain ⟨m0, z0, h0, f0⟩ := hall 0 5 0 rfl
  obtain ⟨m1, z1, h1, f1⟩ := hall 1 3 1 rfl
  obtain ⟨m2, z2, h2, f2⟩ := hall 2 3 2 rfl
  obtain ⟨m3, z3, h3, f3⟩ := hall 3 4 3 rfl
  obtain ⟨m4, z4, h4, f4⟩ := hall 4 9 4 rfl
  obtain ⟨m5, z5, h5, f5⟩ := hall 5 9 5 rfl
  obtain ⟨m6, z6, h6, f6⟩ := hall 6 3 6 rfl
  obtain ⟨m7, z7, h7, f7⟩ := hall 7 46 7 rfl
  obtain ⟨m8, z8, h8, f8⟩ := hall 8 47 8 rfl
  obtain ⟨m9, z9, h9, f9⟩ := hall 9 48 9 rfl
  obtain ⟨k, e0, w0⟩ := read_int Tryz.underlying5 h0
  obtain ⟨lo, e1, w1⟩ := read_int Tryz.underlying3 h1
  obtain ⟨hi, e2, w2⟩ := read_int Tryz.underlying3 h2
  obtain ⟨br, e3⟩ := read_bool Tryz.underlying4 h3
  obtain ⟨bd, e4, w4⟩ := read_str Tryz.underlying9 h4 f4
  obtain ⟨op, e5, w5⟩ := read_str Tryz.underlying9 h5 f5
  obtain ⟨su, e6, w6⟩ := read_int Tryz.underlying3 h6
  obtain ⟨pv, ps, e7, w7⟩ := open_parts h7 f7
  obtain ⟨mv, ms, e8, w8⟩ := open_meths h8 f8
  obtain ⟨ov, os, e9, w9⟩ := open_overs h9 f9
  rw [c5] at e0
  rw [c3] at e1 e2 e6
  rw [c4] at e3
  rw [c9] at e4 e5
  rw [c46] at e7
  rw [c47] at e8
  rw [c48] at e9
  have e0 := take_one e0
  have e1 := take_one e1
  have e2 := take_one e2
  have e3 := take_one e3
  have e4 := take_one e4
  have e5 := take_one e5
  have e6 := take_one e6
  have e7 := take_one e7
  have e8 := take_one e8
  have e9 := take_one e9
  refine ⟨⟨k, lo, hi, br, bd, op, su, ps, ms, os⟩, ⟨pv, mv, ov, list_of _ hl (fun i v hv => ?_), w7, w8, w9, ⟨(wf_u8 w0).1, (wf_u8 w0).2, (wf_i64 w1).1, (wf_i64 w1).2, (wf_i64 w2).1, (wf_i64 w2).2, (wf_i64 w6).1, (wf_i64 w6).2, w4, w5⟩⟩, hl⟩
  match i, hv with
  | 0, hv => cases hv; exact e0
  | 1, hv => cases hv; exact e1
  | 2, hv => cases hv; exact e2
  | 3, hv => cases hv; exact e3
  | 4, hv => cases hv; exact e4
  | 5, hv => cases hv; exact e5
  | 6, hv => cases hv; exact e6
  | 7, hv => cases hv; exact e7
  | 8, hv => cases hv; exact e8
  | 9, hv => cases hv; exact e9
theorem open_graph {n : Nat} {cs : List Value} {y : DataW H × List MemPlace} (h : DataW.trod enc Tryz.prog W 0 (fun _ => true) true n 23 cs = some y) (hf : Fits Tryz.prog 23 y.1) : ∃ v g, cs = [v] ∧ Graph W v g :=
  open_slw IsTy 10 Tryz.underlying23 c50 (by decide) (of_decide_eq_true (by kernel_rfl)) (fun m cs y h hf => open_ty h hf) h hf
theorem open_reveals {n : Nat} {cs : List Value} {y : DataW H × List MemPlace} (h : DataW.trod enc Tryz.prog W 0 (fun _ => true) true n 24 cs = some y) (hf : Fits Tryz.prog 24 y.1) : ∃ v rs, cs = [v] ∧ Reveals W v rs :=
  open_slw IsReveal 3 Tryz.underlying24 c43 (by decide) (of_decide_eq_true (by kernel_rfl)) (fun m cs y h hf => open_reveal h hf) h hf
end
end Go.Proofs.YtjffkeoajkhbmaaGreat

namespace Go.Proofs.YtjffkeoajkhbmaaGreat
open Go.ChangeShapes Go.WideShapes Go.ChangeAt Go.RowKit Go.Proofs
set_option linter.unusedVariables false
theorem own : ownKnob Tryz.prog.godebug = none := by kernel_rfl
theorem laidOut : laidOutB Tryz.prog = true := by kernel_rfl
section
variable {H : Type} {enc : TypeId × Value → H} {W : World}
set_option maxRecDepth 100000 in
theorem arg_graph {base : Nat} {v : Value} {d : DataW H} {p : List MemPlace} (hv : Value.okWide Tryz.prog W .any base 23 v) (h : DataW.Trod enc Tryz.prog W 0 (fun _ => true) true 23 v d p) (hf : Fits Tryz.prog 23 d) : ∃ a n c g, v = .slice a n c ∧ Graph W (.slice a n c) g := by
  obtain ⟨a, n, c, rfl⟩ := okWide_slice Tryz.underlying23 hv
  obtain ⟨m, hm⟩ := h
  obtain ⟨v', g, he, hg⟩ := open_graph hm hf
  change [Value.slice a n c] = [v'] at he
  injection he with he _
  subst he
  exact ⟨a, n, c, g, rfl, hg⟩
set_option maxRecDepth 100000 in
theorem arg_reveals {base : Nat} {v : Value} {d : DataW H} {p : List MemPlace} (hv : Value.okWide Tryz.prog W .any base 24 v) (h : DataW.Trod enc Tryz.prog W 0 (fun _ => true) true 24 v d p) (hf : Fits Tryz.prog 24 d) : ∃ a n c rs, v = .slice a n c ∧ Reveals W (.slice a n c) rs := by
  obtain ⟨a, n, c, rfl⟩ := okWide_slice Tryz.underlying24 hv
  obtain ⟨m, hm⟩ := h
  obtain ⟨v', g, he, hg⟩ := open_reveals hm hf
  change [Value.slice a n c] = [v'] at he
  injection he with he _
  subst he
  exact ⟨a, n, c, g, rfl, hg⟩
set_option maxRecDepth 100000 in
theorem arg_reveal {base : Nat} {v : Value} {d : DataW H} {p : List MemPlace} (hv : Value.okWide Tryz.prog W .any base 43 v) (h : DataW.Trod enc Tryz.prog W 0 (fun _ => true) true 43 v d p) (hf : Fits Tryz.prog 43 d) : ∃ r : Reveal, v = .agg #[.string r.name, .bool r.full, .int .i64 r.type] ∧ r.name.size ≤ maxBytes ∧ -9223372036854775808 ≤ r.type ∧ r.type ≤ 9223372036854775807 := by
  obtain ⟨cs, rfl, hc⟩ := okWide_struct Tryz.underlying43 hv
  obtain ⟨m, hm⟩ := h
  obtain ⟨r, ⟨he, hr⟩, _⟩ := open_reveal hm hf
  change cs.toList = _ at he
  refine ⟨r, ?_, hr⟩
  have : cs = #[.string r.name, .bool r.full, .int .i64 r.type] := Array.ext' he
  rw [this]
set_option maxRecDepth 100000 in
theorem arg_below {t : TypeId} {v : Value} {d : DataW H} {p : List MemPlace} (hr : Tryz.prog.readableRec t = true) (hrow : t < Tryz.prog.types.size) {W' : World} (h : DataW.Trod enc Tryz.prog W 0 (fun _ => true) true t v d p) (hb : Below W.heap.size W W') :
    DataW.Trod enc Tryz.prog W' 0 (fun b => decide (b < W.heap.size)) true t v d p := by
  obtain ⟨m, hm⟩ := h
  exact Below.trod laidOut hr hrow ⟨m, hm⟩ hb (DataW.trod_lt _ _ _ _ hm)
end
end Go.Proofs.YtjffkeoajkhbmaaGreat

namespace Go.Proofs.YtjffkeoajkhbmaaGreat
open Go.ChangeShapes Go.WideShapes Go.ChangeAt Go.RowKit Go.Proofs
set_option linter.unusedVariables false
set_option maxRecDepth 100000 in
theorem subLaws_lifted (os : Os) (started : os.Started) (H : Type) (enc : TypeId × Value → H) :
    ReturnsInHanded {} Tryz.checked os 9 .any (Rows.subLawsSpec.pre6 enc Tryz.prog Tryz.f9 Rows.subLawsRow.domain false) (Rows.subLawsSpec.post enc Tryz.prog Tryz.f9 false true false false) := by
  refine returnsInHanded_of_change_sized (C := Tryz.checked) own started (by kernel_rfl) Tryz.func9
    (ChangeSpec.witness6 (enc := enc) (C := Tryz.checked) false ⟨#[], #[.slice none 0 0, .slice none 0 0], []⟩ 8 (by kernel_rfl) (by kernel_rfl) (by kernel_rfl) (by kernel_rfl)) ?_
  intro W base args ds gs before hval0 hW hcnd hsz _
  have hval : ∀ (j : Nat) t v, Tryz.f9.params[j]? = some t → args[j]? = some v → Value.okWide Tryz.prog W .any base t v := hval0
  have hW' := hW
  obtain ⟨p, q, hA0, hV, rfl, hfz, hnd⟩ := hW
  have hA : DataW.TrodAll enc Tryz.prog W 0 (fun _ => true) true Tryz.f9.params.toList args.toList ds p := hA0
  have hfit : ∀ (j : Nat) (t : TypeId) (d : DataW H), Tryz.f9.params.toList[j]? = some t → ds[j]? = some d → Fits Tryz.prog t d := fun j t d ht hd => by
    refine fits_each (ts := Tryz.f9.params.toList ++ Rows.subLawsSpec.plain.varTypes Tryz.prog) (ds := ds ++ gs) (fun m hm => of_decide_eq_true (List.all_eq_true.1 hsz m hm)) (j := j) ?_ ?_
    · rw [List.getElem?_append_left (List.getElem?_eq_some_iff.1 ht).1]; exact ht
    · rw [List.getElem?_append_left (List.getElem?_eq_some_iff.1 hd).1]; exact hd
  rw [Tryz.params9] at hA hval hfit
  obtain ⟨v0, vs0, d0, ds0, p0, q0, hargs, rfl, rfl, h0, r0⟩ := trodAll_cons hA
  obtain ⟨v1, vs1, d1, ds1, p1, q1, rfl, rfl, rfl, h1, r1⟩ := trodAll_cons r0
  obtain ⟨rfl, rfl, rfl⟩ := trodAll_nil r1
  obtain rfl : args = #[v0, v1] := by cases args; simp_all
  obtain ⟨rfl, rfl⟩ := trodVars_none hV
  obtain ⟨a0, n0, c0, g0, rfl, w0⟩ := arg_graph (hval 0 23 v0 rfl rfl) h0 (hfit 0 23 d0 rfl rfl)
  obtain ⟨a1, n1, c1, g1, rfl, w1⟩ := arg_reveals (hval 1 24 v1 rfl rfl) h1 (hfit 1 24 d1 rfl rfl)
  clear hA0 hval0 hsz
  refine (subLaws9 a0 n0 c0 g0 a1 n1 c1 g1 W w0 w1).mono fun e W' ⟨he, bel⟩ => ?_
  subst he
  exact ⟨_, rfl, _, _, _, [], _, [], hW', trodAll_mk1 (shut_bool Tryz.underlying4 _), (trodAll_cons_mk (arg_below (by kernel_rfl) (of_decide_eq_true (by kernel_rfl)) h0 bel) (trodAll_cons_mk (arg_below (by kernel_rfl) (of_decide_eq_true (by kernel_rfl)) h1 bel) trodAll_mk0)), rfl, bel.frame _, fun h => by cases h⟩
theorem subLaws_over : Rows.subLawsRow.holds Tryz.pinned (OpenSpec.ofChange Rows.subLawsSpec) :=
  OpenClaim.holds_of_wide 9 Tryz.f9 rfl rfl rfl rfl rfl rfl rfl ⟨rfl, rfl, rfl, rfl, rfl⟩ rfl rfl rfl rfl rfl (by kernel_rfl) Tryz.func9 (by kernel_rfl)
    (of_decide_eq_true (by kernel_rfl)) (by unfold Func.isWrapper; first | (rw [if_pos (by decide +kernel)]; kernel_rfl) | (rw [if_neg (by decide +kernel)]; exact ⟨rfl, rfl⟩))
    (fun os started H enc _ => subLaws_lifted os started H enc)
theorem subLaws_holds : Rows.SubLawsSaid := subLaws_over
#print axioms subLaws_holds
end Go.Proofs.YtjffkeoajkhbmaaGreat
