/- What a loop over an iterator may turn: its footprint. A region that draws its order, and whose last operations write what the first ones read: S holds till the late ones come. Classes of types, in plain Lean: the least type that is the same, found by parting further and further. types.refs: what a type refers to, yielded. -/
import Derived.Sort.CutIn
import Derived.Test.YtjffkeoajkhbmaaGreatOW0
import Derived.Test.YtjffkeoajkhbmaaGreatOW3
import Derived.Test.YtjffkeoajkhbmaaGreatOW5
namespace Go.Proofs.YtjffkeoajkhbmaaGreat
set_option linter.unusedSimpArgs false
set_option linter.unusedVariables false
set_option maxRecDepth 100000
set_option maxHeartbeats 8000000
section
open Go.RowKit Go.Proofs Go.Shelf
structure FootOk (N:Nat) (foot:World->Nat->Prop):Prop where
 ext:∀ W W' j,N<=W.heap.size->Ext W W'->foot W' j->foot W j\/W.heap.size<=j
 new:∀ (W:World) (cs:Array Value) (T:TypeId),N<=W.heap.size->(T≠3\/cs.size<2)->¬ foot (W.alloc (.cells cs T)) W.heap.size
 put:∀ W l o o' j,W.heap[l]? = some o->o.isCells=false->j≠l->foot (W.putObj l o') j->foot W j
structure KpF (n:Nat) (foot:World->Nat->Prop) (W W':World):Prop where
 below:Below n W W'
 cells:∀ (j:Nat) (cs:Array Value) (T:TypeId) (p:Nat × Nat),¬ foot W j->W.heap[j]? = some (Obj.cells cs T p)->W'.heap[j]? = some (Obj.cells cs T p)
 foot:∀ (j:Nat) (cs:Array Value) (T:TypeId) (p:Nat × Nat),W.heap[j]? = some (Obj.cells cs T p)->foot W' j->foot W j
theorem KpF.refl (n:Nat) (foot:World->Nat->Prop) (W:World):KpF n foot W W:=⟨Below.refl _ _,fun _ _ _ _ _ h=>h,fun _ _ _ _ _ h=>h⟩
theorem KpF.out {n:Nat} {foot:World->Nat->Prop} {W W':World} (h:KpF n foot W W') {j:Nat} {cs:Array Value} {T:TypeId} {p:Nat × Nat} (hj:W.heap[j]? = some (Obj.cells cs T p)) (hn:¬ foot W j):¬ foot W' j:=fun hf=>hn (h.foot j cs T p hj hf)
theorem KpF.trans {n:Nat} {foot:World->Nat->Prop} {A B C:World} (h:KpF n foot A B) (k:KpF n foot B C):KpF n foot A C :=
 ⟨h.below.trans k.below,fun j cs T p hn hj=>k.cells j cs T p (h.out hj hn) (h.cells j cs T p hn hj),fun j cs T p hj hf=>by
  by_cases hn:foot A j
  ·exact hn
  ·exact h.foot j cs T p hj (k.foot j cs T p (h.cells j cs T p hn hj) hf)⟩
theorem KpF.put {n:Nat} {foot:World->Nat->Prop} {N:Nat} (hok:FootOk N foot) {w:World} (hn:n<=w.heap.size) (W:World) (l:Nat) (o o':Obj) (hl:w.heap.size<=l) (h:W.heap[l]? = some o) (ho:o.isCells=false) (hw:o.isWalk=false):KpF n foot W (W.putObj l o') :=
 ⟨belowK_b hn W l o o' hl h ho hw,fun j cs T p _ hj=>Keep.put o' h ho j cs p hj,fun j cs T p hj hf=>hok.put W l o o' j h ho (fun e=>by subst e; rw [h] at hj; cases hj; cases ho) hf⟩
def Safe (foot:World->Nat->Prop) (W:World) (b:Nat) (cs:Array Value) (T:TypeId):Prop:=W.heap[b]? = some (Obj.cells cs T (0,0))/\¬ foot W b
theorem Safe.kept {n:Nat} {foot:World->Nat->Prop} {W W':World} {b:Nat} {cs:Array Value} {T:TypeId} (h:Safe foot W b cs T) (k:KpF n foot W W'):Safe foot W' b cs T :=
 ⟨k.cells _ _ _ _ h.2 h.1,k.out h.1 h.2⟩
theorem Safe.new {N:Nat} {foot:World->Nat->Prop} (hok:FootOk N foot) (W:World) (hN:N<=W.heap.size) (cs:Array Value) (T:TypeId) (hT:T≠3\/cs.size<2):Safe foot (W.alloc (.cells cs T)) W.heap.size cs T :=
 ⟨heap_alloc_new W _,hok.new W cs T hN hT⟩
theorem Safe.ext {N:Nat} {foot:World->Nat->Prop} (hok:FootOk N foot) {W W':World} {b:Nat} {cs:Array Value} {T:TypeId} (h:Safe foot W b cs T) (hN:N<=W.heap.size) (hE:Ext W W'):Safe foot W' b cs T :=
 ⟨(hE.block b (Array.getElem?_eq_some_iff.1 h.1).1).trans h.1,fun hf=>(hok.ext _ _ _ hN hE hf).elim h.2 (fun h'=>by have:=(Array.getElem?_eq_some_iff.1 h.1).1; omega)⟩
theorem KpF.ext {N n:Nat} {foot:World->Nat->Prop} (hok:FootOk N foot) {W W':World} (hn:n<=W.heap.size) (hN:N<=W.heap.size) (hE:Ext W W'):KpF n foot W W' :=
 ⟨Below.mono hE hn,fun j _ _ _ _ hj=>(hE.block j (Array.getElem?_eq_some_iff.1 hj).1).trans hj,fun j cs T p hj hf=>(hok.ext _ _ _ hN hE hf).elim id (fun h=>by have:=(Array.getElem?_eq_some_iff.1 hj).1; omega)⟩
theorem Safe.cell {foot:World->Nat->Prop} {W:World} {b:Nat} {cs:Array Value} {T:TypeId} (h:Safe foot W b cs T) {j:Nat} {v:Value} (hj:cs[j]? = some v):W.cell? ⟨b,j,none⟩=some v:=by
 unfold World.cell?;rw [show W.heap[(⟨b,j,none⟩:Addr).block]? = some (.cells cs T (0,0)) from h.1];exact hj
structure Stp where
 rule:Nat
 to_:Nat
 n:Nat
deriving DecidableEq
def encStp (s:Stp):Array Value:=#[.agg #[.int .u8 s.rule,.int .i64 s.to_,.int .i64 s.n]]
end
section
open Go.RowKit Go.Proofs
section
variable {P:Program} {ops:Array Oper} {Q:Exit->Act->World->Prop} {md:Region.Mode} {S:World->Prop} {late:List Nat}
def early (late:List Nat) (listed:Array Bool):Bool:=late.all fun j=>listed.getD j true==false
def wpL (P:Program) (md:Region.Mode) (ops:Array Oper) (late:List Nat) (Q:Exit->Act->World->Prop) (S:World->Prop):Nat->Array Bool->Act->World->Prop
 | 0,listed,a,w=>Region.ready md ops listed=[]/\Q .normal a w
 | fuel+1,listed,a,w =>
  (Region.ready md ops listed=[]->Q .normal a w) /\
  ∀ i∈Region.ready md ops listed,wpOp P ops Q i (fun a' w'=>(early late (listed.setIfInBounds i true)=true->S w')/\wpL P md ops late Q S fuel (listed.setIfInBounds i true) a' w') a w
theorem wpAny_of_L:∀ (fuel:Nat) (listed:Array Bool) (a:Act) (w:World),wpL P md ops late Q S fuel listed a w->wpAny P md ops Q fuel listed a w
 | 0,_,_,_,h=>h
 | fuel+1,_,_,_,h=>⟨h.1,fun i hi=>wpOp_mono (fun a' w' h'=>wpAny_of_L fuel _ a' w' h'.2) (h.2 i hi)⟩
theorem wp_region_L {id:Nat} {a:Act} {w:World} (late:List Nat) (S:World->Prop) (hm:P.follows .mixedOrders=true)
  (h:wpL P .any ops late Q S ops.size (Array.replicate ops.size false) a w.drew):(Code.region id ops true).wp P Q a w :=
 wp_region_any hm (wpAny_of_L _ _ _ _ h)
theorem early_set {listed:Array Bool} {i:Nat} (h:early late listed=true) (hi:late.contains i=false):early late (listed.setIfInBounds i true)=true:=by
 unfold early at h ⊢;rw [List.all_eq_true] at h ⊢;intro j hj;have hij:i≠j:=fun e=>by
  subst e;have:late.contains i=true:=by simpa using hj
  rw [this] at hi; cases hi
 rw [getD_set_ne true hij];exact h j hj
theorem wpL_first {T:World->Prop} {i:Nat} {oi:Oper} {v:Value} (hi:ops[i]? = some oi) (hsel:∀ (j:Nat) (o:Oper) cs b,ops[j]? = some o->o.op≠.select cs b)
  (hil:late.contains i=false)
  (hT:(∀ w,T w)\/(T=S/\∀ j oj,ops[j]? = some oj->late.contains j=true->∃ e∈oj.after,Region.binds md e=true/\e.on=i))
  (hQ:∀ c a w,Q (.panic c) (a.put oi.dst v) w->Q (.panic c) a w) :
  ∀ (fuel:Nat) (listed:Array Bool) (a:Act) (w:World),
   (∀ j oj,ops[j]? = some oj->j≠i->listed.getD j true=false->(∀ e∈oj.after,Region.binds md e=true->e.on≠i)->oi.apart ops oj=true) ->
   i∈Region.ready md ops listed->YieldsIf P ops T oi v a->T w->((∀ w,T w)\/early late listed=true)->(early late (listed.setIfInBounds i true)=true->S w) ->
   wpL P md ops late Q S fuel (listed.setIfInBounds i true) (a.put oi.dst v) w->wpL P md ops late Q S (fuel+1) listed a w:=by
 intro fuel
 induction fuel with
 | zero =>
  intro listed a w _ hr hy hTw _ hS H;refine ⟨fun h=>(by rw [h] at hr; cases hr),fun j hj=>?_⟩;by_cases hji:j=i
  ·subst hji; exact hy.wpOp hi hTw ⟨hS,H⟩
  ·have:=ready_mono hj hji;rw [H.1] at this;cases this
 | succ fuel ih =>
  intro listed a w hfree hr hy hTw hE hS H;refine ⟨fun h=>(by rw [h] at hr; cases hr),fun j hj=>?_⟩;by_cases hji:j=i
  ·subst hji; exact hy.wpOp hi hTw ⟨hS,H⟩
  ·have h1:=H.2 j (ready_mono hj hji);obtain ⟨hjun,oj,hoj,hall⟩:=mem_ready.1 hj;have hnot:∀ e∈oj.after,Region.binds md e=true->e.on≠i:=fun e he hb heq=>by
    have h1:=hall e he hb;have h0:=(mem_ready.1 hr).1;rw [heq] at h1;rcases Nat.lt_or_ge i listed.size with h' | h'
    ·simp [h'] at h0 h1; rw [h0] at h1; cases h1
    ·simp [Array.getElem?_eq_none h'] at h1
   have h2:=wpOp_putIf hoj (hfree j oj hoj hji hjun hnot) (fun cs b=>hsel i oi cs b hi) (fun cs b=>hsel j oj cs b hoj) hQ hy h1;have hfree':∀ k ok,ops[k]? = some ok->k≠i->(listed.setIfInBounds j true).getD k true=false ->
     (∀ e∈ok.after,Region.binds md e=true->e.on≠i)->oi.apart ops ok=true:=fun k ok hk hki hun hno=>by
    refine hfree k ok hk hki ?_ hno;by_cases hjk:j=k
    ·subst hjk; exact hjun
    ·rw [getD_set_ne true hjk] at hun; exact hun
   have hcomm:=Array.setIfInBounds_comm (xs:=listed) true true (Ne.symm hji);have hjl:(T=S/\∀ j oj,ops[j]? = some oj->late.contains j=true->∃ e∈oj.after,Region.binds md e=true/\e.on=i)->late.contains j=false:=fun hs=>by
    cases hc:late.contains j with
    | false=>rfl
    | true =>
     obtain ⟨e,he,hb,hon⟩:=hs.2 j oj hoj hc;exact absurd hon (hnot e he hb)
   refine wpOp_mono (fun a' w' h3=>?_) h2;have hS':early late ((listed.setIfInBounds j true).setIfInBounds i true)=true->S w':=by rw [<- hcomm]; exact h3.2.1
   have hTw':T w':=by
    rcases hT with h0 | hs
    ·exact h0 w'
    ·rcases hE with h0 | hE
     ·exact h0 w'
     ·rw [hs.1];exact hS' (early_set (early_set hE (hjl hs)) hil)
   have hE':(∀ w,T w)\/early late (listed.setIfInBounds j true)=true:=by
    rcases hT with h0 | hs
    ·exact Or.inl h0
    ·rcases hE with h0 | hE
     ·exact Or.inl h0
     ·exact Or.inr (early_set hE (hjl hs))
   refine ⟨fun he=>?_,ih (listed.setIfInBounds j true) a' w' hfree' (ready_mono hr (Ne.symm hji)) h3.1 hTw' hE' hS' ?_⟩
   ·exact hS' (early_set he hil)
   ·rw [<- hcomm];exact h3.2.2
def behind (md:Region.Mode) (ops:Array Oper) (late:List Nat) (i:Nat):Bool :=
 late.all fun j=>match ops[j]? with | none=>true | some o=>o.after.any fun e=>Region.binds md e&&e.on==i
theorem behind_spec {i:Nat} (h:behind md ops late i=true):∀ j oj,ops[j]? = some oj->late.contains j=true->∃ e∈oj.after,Region.binds md e=true/\e.on=i:=by
 intro j oj hoj hj;unfold behind at h;rw [List.all_eq_true] at h;have:=h j (by simpa using hj);rw [hoj] at this;simp only [Array.any_eq_true,Bool.and_eq_true,beq_iff_eq] at this;obtain ⟨k,hk,hb,he⟩:=this;exact ⟨_,Array.getElem_mem hk,hb,he⟩
theorem wpL_read {i:Nat} {oi:Oper} {v:Value} {fuel:Nat} {listed:Array Bool} {a:Act} {w:World} (hi:ops[i]? = some oi)
  (hs:Region.noSelect ops=true) (hf:Region.free md ops listed i=true) (hr:(Region.ready md ops listed).contains i=true) (hl:(!late.contains i&&behind md ops late i&&early late listed)=true)
  (hQ:∀ c a w,Q (.panic c) (a.put oi.dst v) w->Q (.panic c) a w) (hy:YieldsIf P ops S oi v a) (hS:S w)
  (h:wpL P md ops late Q S fuel (listed.setIfInBounds i true) (a.put oi.dst v) w):wpL P md ops late Q S (fuel+1) listed a w:=by
 simp only [Bool.and_eq_true,Bool.not_eq_true'] at hl;exact wpL_first hi (Region.noSelect_spec hs) hl.1.1 (Or.inr ⟨rfl,behind_spec hl.1.2⟩) hQ fuel listed a w (Region.free_spec hi hf) (by simpa using hr) hy hS (Or.inr hl.2) (fun _=>hS) h
theorem wpL_pure {i:Nat} {oi:Oper} {v:Value} {fuel:Nat} {listed:Array Bool} {a:Act} {w:World} (hi:ops[i]? = some oi)
  (hs:Region.noSelect ops=true) (hf:Region.free md ops listed i=true) (hr:(Region.ready md ops listed).contains i=true) (hl:(!late.contains i)=true)
  (hQ:∀ c a w,Q (.panic c) (a.put oi.dst v) w->Q (.panic c) a w) (hy:YieldsIf P ops (fun _=>True) oi v a) (hS:S w)
  (h:wpL P md ops late Q S fuel (listed.setIfInBounds i true) (a.put oi.dst v) w):wpL P md ops late Q S (fuel+1) listed a w :=
 wpL_first hi (Region.noSelect_spec hs) (by simpa using hl) (Or.inl fun _=>trivial) hQ fuel listed a w (Region.free_spec hi hf) (by simpa using hr) hy trivial (Or.inl fun _=>trivial) (fun _=>hS) h
theorem wpL_only {i:Nat} {oi:Oper} {fuel:Nat} {listed:Array Bool} {a:Act} {w:World} (hi:ops[i]? = some oi) (hr:Region.ready md ops listed=[i])
  (h:∀ K:Act->World->Prop,(∀ a' w',(early late (listed.setIfInBounds i true)=true->S w')->wpL P md ops late Q S fuel (listed.setIfInBounds i true) a' w'->K a' w') ->
   if Region.wanted oi (yielded ops a.tmps) then oi.wp P a w K Q else K (a.put oi.dst undef) w):wpL P md ops late Q S (fuel+1) listed a w:=by
 refine ⟨fun h0=>absurd (hr ▸ h0) (by simp),fun j hj=>?_⟩;rw [hr] at hj;obtain rfl:=List.mem_singleton.1 hj;have:=h (fun a' w'=>(early late (listed.setIfInBounds j true)=true->S w')/\wpL P md ops late Q S fuel (listed.setIfInBounds j true) a' w') (fun a' w' hE hX=>⟨hE,hX⟩);unfold wpOp;simp only [hi];split
 ·rename_i hw; rw [if_pos hw] at this; exact .inl this
 ·rename_i hw; rw [if_neg hw] at this; exact this
theorem wpL_done {fuel:Nat} {listed:Array Bool} {a:Act} {w:World} (hr:Region.ready md ops listed=[]) (h:Q .normal a w):wpL P md ops late Q S fuel listed a w:=by
 cases fuel with
 | zero=>exact ⟨hr,h⟩
 | succ fuel=>exact ⟨fun _=>h,by rw [hr]; simp⟩
end
section
variable {P:Program} {ops:Array Oper} {Q:Exit->Act->World->Prop} {md:Region.Mode} {S:World->Prop} {late:List Nat}
theorem Yt (i:Nat) {oi:Oper} {v:Value} {fuel:Nat} {listed l1:Array Bool} {a a1:Act} {w:World} (hi:ops[i]? = some oi) (h0:∀ w',S w'->(execOp a.eval oi).run P w'=.ok (.value v) w') (hS:S w) (h:wpL P md ops late Q S fuel l1 a1 w) (hs:Region.noSelect ops=true:=by kernel_rfl) (hf:Region.free md ops listed i=true:=by kernel_rfl) (hr:(Region.ready md ops listed).contains i=true:=by kernel_rfl) (hl:(!late.contains i&&behind md ops late i&&early late listed)=true:=by kernel_rfl) (hQ:∀ c a w,Q (.panic c) (a.put oi.dst v) w->Q (.panic c) a w:=by exact fun _ _ _ h=>h) (hw:Region.wanted oi (yielded ops a.tmps)=true:=by kernel_rfl) (hp:a.put oi.dst v=a1:=by first | ((try simp only [Act.put,nm]); with_reducible rfl) | (simp only [Act.put,nm]; done)) (hl1:listed.setIfInBounds i true=l1:=by first | ((try simp only [Act.put,nm]); with_reducible rfl) | (simp only [Act.put,nm]; done)):wpL P md ops late Q S (fuel+1) listed a w:=by
 subst hp; subst hl1; exact wpL_read hi hs hf hr hl hQ (Or.inl ⟨hw,h0⟩) hS h
theorem Yp (i:Nat) {oi:Oper} {v:Value} {fuel:Nat} {listed l1:Array Bool} {a a1:Act} {w:World} (hS:S w) (h:wpL P md ops late Q S fuel l1 a1 w) (hi:ops[i]? = some oi:=by exact rfl) (h0:∀ w',True->(execOp a.eval oi).run P w'=.ok (.value v) w':=by intro w9 hE; clear hE; first | (go_simp; done) | (go_simp; with_reducible rfl)) (hs:Region.noSelect ops=true:=by kernel_rfl) (hf:Region.free md ops listed i=true:=by kernel_rfl) (hr:(Region.ready md ops listed).contains i=true:=by kernel_rfl) (hl:(!late.contains i)=true:=by kernel_rfl) (hQ:∀ c a w,Q (.panic c) (a.put oi.dst v) w->Q (.panic c) a w:=by exact fun _ _ _ h=>h) (hw:Region.wanted oi (yielded ops a.tmps)=true:=by kernel_rfl) (hp:a.put oi.dst v=a1:=by first | ((try simp only [Act.put,nm]); with_reducible rfl) | (simp only [Act.put,nm]; done)) (hl1:listed.setIfInBounds i true=l1:=by first | ((try simp only [Act.put,nm]); with_reducible rfl) | (simp only [Act.put,nm]; done)):wpL P md ops late Q S (fuel+1) listed a w:=by
 subst hp; subst hl1; exact wpL_pure hi hs hf hr hl hQ (Or.inl ⟨hw,h0⟩) hS h
theorem Ys (i:Nat) {oi:Oper} {fuel:Nat} {listed l1:Array Bool} {a a1:Act} {w:World} (hS:S w) (h:wpL P md ops late Q S fuel l1 a1 w) (hi:ops[i]? = some oi:=by exact rfl) (hs:Region.noSelect ops=true:=by kernel_rfl) (hf:Region.free md ops listed i=true:=by kernel_rfl) (hr:(Region.ready md ops listed).contains i=true:=by kernel_rfl) (hl:(!late.contains i)=true:=by kernel_rfl) (hQ:∀ c a w,Q (.panic c) (a.put oi.dst undef) w->Q (.panic c) a w:=by exact fun _ _ _ h=>h) (hw:Region.wanted oi (yielded ops a.tmps)=false:=by kernel_rfl) (hp:a.put oi.dst undef=a1:=by first | ((try simp only [Act.put,nm]); with_reducible rfl) | (simp only [Act.put,nm]; done)) (hl1:listed.setIfInBounds i true=l1:=by first | ((try simp only [Act.put,nm]); with_reducible rfl) | (simp only [Act.put,nm]; done)):wpL P md ops late Q S (fuel+1) listed a w:=by
 subst hp; subst hl1; exact wpL_pure hi hs hf hr hl hQ (Or.inr ⟨hw,rfl⟩) hS h
end
end
section
def lead (i:Nat) (p:Nat->Bool):Nat:=((List.range i).find? p).getD i
theorem lead_hit {i k:Nat} {p:Nat->Bool} (hk:k<i) (h1:p k=true) (h:∀ j,j<k->p j=false):lead i p=k:=by
 have:(List.range i).find? p=some k:=by
  rw [List.find?_range_eq_some];exact ⟨h1,by simpa using hk,fun j hj=>by simp [h j hj]⟩
 rw [lead,this]; rfl
theorem lead_self {i:Nat} {p:Nat->Bool} (h:∀ j,j<i->p j=false):lead i p=i:=by
 have:(List.range i).find? p=none:=by
  rw [List.find?_eq_none];intro x hx;rw [h x (List.mem_range.1 hx)]; simp
 rw [lead,this]; rfl
theorem lead_cases (i:Nat) (p:Nat->Bool):lead i p=i\/(lead i p<i/\p (lead i p)=true):=by
 unfold lead;cases h:(List.range i).find? p with
 | none=>exact Or.inl rfl
 | some k=>exact Or.inr ⟨List.mem_range.1 (List.mem_of_find?_eq_some h),List.find?_some h⟩
theorem lead_congr {i:Nat} {p q:Nat->Bool} (h:∀ j,j<i->p j=q j):lead i p=lead i q:=by
 unfold lead
 congr 1
 have:∀ (l:List Nat),(∀ j,j∈l->p j=q j)->l.find? p=l.find? q:=by
  intro l
  induction l with
  | nil=>intro _; rfl
  | cons x l ih =>
   intro hl;rw [List.find?_cons,List.find?_cons,hl x (List.mem_cons_self ..),ih (fun j hj=>hl j (List.mem_cons_of_mem _ hj))]
 exact this _ (fun j hj=>h j (List.mem_range.1 hj))
def leads (q:Nat->Nat->Bool):Nat->List Nat
 | 0=>[]
 | n+1=>leads q n++[lead n fun k=>(leads q n).getD k 0==k&&q n k]
theorem leads_length (q:Nat->Nat->Bool):∀ n,(leads q n).length=n
 | 0=>rfl
 | n+1=>by simp [leads,leads_length q n]
def leadF (q:Nat->Nat->Bool) (i:Nat):Nat:=(leads q (i+1)).getD i 0
theorem leads_get (q:Nat->Nat->Bool):∀ (n i:Nat),i<n->(leads q n).getD i 0=leadF q i
 | 0,i,h=>absurd h (Nat.not_lt_zero _)
 | n+1,i,h=>by
  by_cases hi:i=n
  ·rw [hi]; rfl
  ·have:=leads_get q n i (by omega);rw [<- this,leads,List.getD_eq_getElem?_getD,List.getD_eq_getElem?_getD,List.getElem?_append_left (by rw [leads_length]; omega)]
theorem leadF_eq (q:Nat->Nat->Bool) (i:Nat):leadF q i=lead i fun k=>leadF q k==k&&q i k:=by
 have:leadF q i=lead i fun k=>(leads q i).getD k 0==k&&q i k:=by
  rw [leadF,leads,List.getD_eq_getElem?_getD,List.getElem?_append_right (by rw [leads_length]; omega),leads_length,Nat.sub_self]; rfl
 rw [this];exact lead_congr (fun j hj=>by rw [leads_get q i j hj])
theorem leadF_le (q:Nat->Nat->Bool) (i:Nat):leadF q i<=i:=by
 rw [leadF_eq];rcases lead_cases i (fun k=>leadF q k==k&&q i k) with h | ⟨h,_⟩ <;> omega
theorem leadF_lead (q:Nat->Nat->Bool) (i:Nat):leadF q (leadF q i)=leadF q i:=by
 have h0:=leadF_eq q i;rcases lead_cases i (fun k=>leadF q k==k&&q i k) with h | ⟨_,h⟩
 ·rw [h] at h0; rw [h0,h0]
 ·rw [<- h0] at h;simp only [Bool.and_eq_true,beq_iff_eq] at h;exact h.1
theorem leadF_with (q:Nat->Nat->Bool) (i:Nat):leadF q i=i\/q i (leadF q i)=true:=by
 have h0:=leadF_eq q i;rcases lead_cases i (fun k=>leadF q k==k&&q i k) with h | ⟨_,h⟩
 ·rw [h] at h0; exact Or.inl h0
 ·rw [<- h0] at h;simp only [Bool.and_eq_true] at h;exact Or.inr h.2
def Leading (C:Nat->Nat):Prop:=∀ i,C i<=i/\C (C i)=C i
theorem leading_leadF (q:Nat->Nat->Bool):Leading (leadF q):=fun i=>⟨leadF_le q i,leadF_lead q i⟩
def parted (C:Nat->Nat) (q:Nat->Nat->Bool):Nat->Nat:=leadF fun i k=>C k==C i&&q i k
theorem parted_le {C:Nat->Nat} (q:Nat->Nat->Bool) (i:Nat):C (parted C q i)=C i:=by
 rcases leadF_with (fun i k=>C k==C i&&q i k) i with h | h
 ·unfold parted; rw [h]
 ·simp only [Bool.and_eq_true,beq_iff_eq] at h;exact h.1
theorem parted_keeps {C:Nat->Nat} (hC:Leading C) (q:Nat->Nat->Bool) {i:Nat} (h:C i=i):parted C q i=i:=by
 have h1:=parted_le (C:=C) q i;have h2:=leadF_le (fun i k=>C k==C i&&q i k) i;have h3:=(hC (parted C q i)).1;show parted C q i=i
 have h4:parted C q i<=i:=h2;omega
theorem parted_new {C:Nat->Nat} (hC:Leading C) (q:Nat->Nat->Bool) {i:Nat} (h:parted C q i≠C i):parted C q (parted C q i)=parted C q i/\C (parted C q i)≠parted C q i:=by
 refine ⟨leadF_lead _ i,fun h1=>h ?_⟩;rw [parted_le (C:=C) q i] at h1;exact h1.symm
def leaders (n:Nat) (C:Nat->Nat):Nat:=((List.range n).filter fun i=>C i==i).length
theorem filter_le {p q:Nat->Bool}:∀ (l:List Nat),(∀ i,i∈l->p i=true->q i=true)->(l.filter p).length<=(l.filter q).length
 | [],_=>Nat.le_refl _
 | x :: l,h=>by
  have ih:=filter_le l (fun i hi=>h i (List.mem_cons_of_mem _ hi));have hx:=h x (List.mem_cons_self ..);rw [List.filter_cons,List.filter_cons];cases hp:p x <;> cases hq:q x <;> simp_all <;> omega
theorem filter_lt {p q:Nat->Bool}:∀ (l:List Nat),(∀ i,i∈l->p i=true->q i=true)->(∃ j,j∈l/\q j=true/\p j=false)->(l.filter p).length<(l.filter q).length
 | [],_,⟨j,hj,_⟩=>by cases hj
 | x :: l,h,⟨j,hj,h1,h2⟩=>by
  have hle:=filter_le l (fun i hi=>h i (List.mem_cons_of_mem _ hi));have hx:=h x (List.mem_cons_self ..);rw [List.filter_cons,List.filter_cons];rcases List.mem_cons.1 hj with rfl | hj
  ·rw [h1,h2]; simp; omega
  ·have ih:=filter_lt l (fun i hi=>h i (List.mem_cons_of_mem _ hi)) ⟨j,hj,h1,h2⟩;cases hp:p x <;> cases hq:q x <;> simp_all <;> omega
theorem leaders_lt {n:Nat} {C:Nat->Nat} (hC:Leading C) (q:Nat->Nat->Bool) {i:Nat} (hi:i<n) (h:parted C q i≠C i):leaders n C<leaders n (parted C q):=by
 obtain ⟨h1,h2⟩:=parted_new hC q h;refine filter_lt _ (fun j _ hj=>?_) ⟨parted C q i,List.mem_range.2 (Nat.lt_of_le_of_lt (leadF_le _ i) hi),by simpa using h1,by simpa using h2⟩;rw [beq_iff_eq] at hj ⊢;exact parted_keeps hC q hj
theorem leaders_le (n:Nat) (C:Nat->Nat):leaders n C<=n:=by
 have:=List.length_filter_le (fun i=>C i==i) (List.range n);rw [List.length_range] at this;exact this
end
section
open Go.RowKit Go.Proofs Go.Shelf
attribute [local go_sem] Oper.semAt_some
def supersOf (x:Ty):List Int:=if hasSuperB x.kind then [x.super] else []
def methRefs (m:Meth):List Int:=m.sig.args++(if 0<=m.sig.result then [m.sig.result] else [])
theorem refsOf_eq (x:Ty):refsOf x=supersOf x++x.parts.map (·.type)++(x.methods.map methRefs).flatten:=rfl
theorem pre_lt {α:Type} {pre xs:List α} {x:α} (h:pre++[x] <+: xs):pre.length<xs.length:=by
 have:=h.length_le;simp at this;omega
theorem take_snoc_map {α β:Type} [Inhabited α] {xs:List α} (f:α->β) {k:Nat} (h:k<xs.length):(xs.map f).take (k+1)=(xs.map f).take k++[f (nth xs k)]:=by
 rw [List.take_succ_eq_append_getElem (by simpa using h),nth_eq h]; simp
theorem refs_parts (x:Ty) {k:Nat} (h:k<x.parts.length):(supersOf x++(x.parts.map (·.type)).take k)++[(nth x.parts k).type] <+: refsOf x:=by
 rw [refsOf_eq,List.append_assoc,<- take_snoc_map (·.type) h,List.append_assoc];exact (List.prefix_append_right_inj _).2 ((List.take_prefix _ _).trans (List.prefix_append _ _))
def refsUpTo (x:Ty) (k:Nat):List Int:=supersOf x++x.parts.map (·.type)++((x.methods.take k).map methRefs).flatten
theorem refsUpTo_succ (x:Ty) {k:Nat} (h:k<x.methods.length):refsUpTo x (k+1)=refsUpTo x k++methRefs (nth x.methods k):=by
 unfold refsUpTo;rw [take_snoc h,List.map_append,List.flatten_append];simp
theorem refsUpTo_all (x:Ty):refsUpTo x x.methods.length=refsOf x:=by
 unfold refsUpTo;rw [List.take_length,refsOf_eq]
theorem refsUpTo_prefix (x:Ty) (k:Nat):refsUpTo x k <+: refsOf x:=by
 unfold refsUpTo;rw [refsOf_eq];refine (List.prefix_append_right_inj _).2 ?_
 conv=>rhs; rw [<- List.take_append_drop k x.methods,List.map_append,List.flatten_append]
 exact List.prefix_append _ _
theorem refs_args (x:Ty) {k d:Nat} (h:k<x.methods.length) (hd:d<(nth x.methods k).sig.args.length) :
  (refsUpTo x k++(nth x.methods k).sig.args.take d)++[nth (nth x.methods k).sig.args d] <+: refsOf x:=by
 refine List.IsPrefix.trans ?_ (refsUpTo_prefix x (k+1));rw [refsUpTo_succ x h,List.append_assoc,<- take_snoc hd];exact (List.prefix_append_right_inj _).2 ((List.take_prefix _ _).trans (List.prefix_append _ _))
theorem refs_result (x:Ty) {k:Nat} (h:k<x.methods.length) (hr:0<=(nth x.methods k).sig.result) :
  (refsUpTo x k++(nth x.methods k).sig.args)++[(nth x.methods k).sig.result]=refsUpTo x (k+1):=by
 rw [refsUpTo_succ x h,methRefs,if_pos hr,List.append_assoc]
theorem refs_noResult (x:Ty) {k:Nat} (h:k<x.methods.length) (hr:¬ 0<=(nth x.methods k).sig.result) :
  refsUpTo x k++(nth x.methods k).sig.args=refsUpTo x (k+1):=by
 rw [refsUpTo_succ x h,methRefs,if_neg hr,List.append_nil]
theorem cell_of_heap {w:World} {b:Nat} {cs:Array Value} {T:TypeId} (h:w.heap[b]? = some (.cells cs T (0,0))) {j:Nat} {v:Value} (hj:cs[j]? = some v):w.cell? ⟨b,j,none⟩=some v:=by
 unfold World.cell?;rw [show w.heap[(⟨b,j,none⟩:Addr).block]? = some (.cells cs T (0,0)) from h];exact hj
theorem refs165 (w0 w:World) (hE:Ext w0 w) (bx:Nat) (x:Ty) (pa:Option Addr) (pl pc:Nat) (ma:Option Addr) (ml mc:Nat) (ov:Value) (hx:Box w0 bx x (.slice pa pl pc) (.slice ma ml mc) ov)
  (hp:Parts w0 (.slice pa pl pc) x.parts) (hm:Meths w0 (.slice ma ml mc) x.methods):YieldsInts w0 165 #[.pointer (some ⟨bx,0,none⟩)] (refsOf x) w:=by
 intro m l J Jx W hW hJ hJx hY h0;have hEW:Ext w0 W:=hE.trans hW;have hY2:=dh (show ∀ pre y W1,(pre++[y] <+: refsOf x)->J pre W1->Ext w0 W1->∃ fn tmps assign body,(Instr.yield l #[.int .i64 y]).run Tryz.prog W1=.ok (.round l fn tmps assign body) W1 /\
   RoundIn Fence.wide (m-1) Tryz.prog l fn tmps assign body W1 (fun e W'=>(e=.returned (.bool true)/\Hid (J (pre++[y]) W'/\Ext w0 W'/\Keep 88 W1 W'))\/(e=.returned (.bool false)/\Hid (Jx (pre++[y]) W'))) from
  fun pre y W1 h1 h2 h3=>by
   obtain ⟨fn,tmps,assign,body,hy,hR⟩:=hY pre y W1 h2 (pre_lt h1);refine ⟨fn,tmps,assign,body,hy,hR.mono ?_⟩;rintro e W' (⟨rfl,a,b⟩ | ⟨rfl,a⟩)
   ·exact Or.inl ⟨rfl,a,Below.trans h3 b.1,b.2⟩
   ·exact Or.inr ⟨rfl,a⟩)
 clear hY;have hJa:=dh (show ∀ pre W1 o,J pre W1->J pre (W1.alloc o) from fun pre W1 o h=>hJ pre W1 _ none h (World.grownBy_alloc W1 o none) (fun r e=>by cases e));clear hJ hJx;refine callsIn_of_wp Tryz.func165 rfl trivial ?_ rfl;simp only [Tryz.ntmps165,List.size_toArray,List.length_cons,List.length_nil,Nat.reduceAdd,Nat.reduceSub,Array.replicate_succ,Array.replicate_zero,List.push_toArray,List.append_toArray,List.nil_append,List.cons_append];have hx1:=hx.ext hEW;have c0:=hx1.cell (j:=0) rfl;have c6:=hx1.cell (j:=6) rfl;have H0:=dh h0; clear h0;have HEW:=dh hEW; clear hEW;have hpb:=(SlW.bound hp).2;have hmb:=(SlW.bound hm).2;obtain rfl:=SlW.len hp;obtain rfl:=SlW.len hm;have Hp:=dh hp; clear hp;have Hm:=dh hm; clear hm;have Hx:=dh hx; clear hx hx1
 gi_upto_region 0 with (fail)
 gi_cut [18] from 65 (fun v wx=>(v=.bool false/\Hid (J (supersOf x) wx/\Ext w0 wx))\/(v=.bool true/\Hid (∃ pre,pre <+: refsOf x/\Jx pre wx)))
 case first =>
  gi_wp2_with fail;refine ⟨trivial,fun h=>(by cases h),callsIn_wide.2 ((hasSuper75 _ _).mono ?_)⟩;rintro e w2 ⟨rfl,rfl⟩;cases hs:hasSuperB x.kind
  ·have hsup:=dh (show supersOf x=[] by unfold supersOf; rw [hs]; rfl);have H1:Hid (J (supersOf x) w2):=by rw [hsup.out]; exact H0
   gi_wp2_with fail;refine ⟨fun _ h=>(by cases h),?_⟩;gi_wp2_with fail
   gi_meet
   exact Or.inl ⟨rfl,H1.out,HEW.out⟩
  ·have hsup:=dh (show supersOf x=[x.super] by unfold supersOf; rw [hs]; rfl);obtain ⟨fn,tmps,assign,body,hy,hR⟩:=hY2.out [] x.super w2 (by rw [refsOf_eq,hsup.out]; simp) H0.out HEW.out;gi_wp2_with fail;refine ⟨fun h=>(by cases h),hR.mono ?_⟩;rintro e W3 (⟨rfl,hH⟩ | ⟨rfl,hJx⟩)
   ·gi_wp2_with fail
    gi_meet
    exact Or.inl ⟨rfl,by rw [hsup.out]; exact hH.out.1,hH.out.2.1⟩
   ·gi_wp2_with fail
    gi_meet
    exact Or.inr ⟨rfl,[x.super],by rw [refsOf_eq,hsup.out]; simp,hJx.out⟩
 case rest =>
  rcases hcut with ⟨rfl,hH⟩ | ⟨rfl,hH⟩
  rotate_left
  ·gi_wp2_with fail;refine bodyPost_ret (results_none rfl _ _ _) rfl ?_;exact ⟨⟨_,rfl⟩,.inr hH.out⟩
  have HE1:=dh hH.out.2;have H1:=dh hH.out.1;clear hH H0 HEW c0 c6;have c7:=(Hx.out.ext HE1.out).cell (j:=7) rfl
  gi_upto_region 2 with (fail)
  gi_loopw [4,22] (fun _ i wr=>∃ k:Nat,k<=x.parts.length/\i=.int .i64 k/\Hid (J (supersOf x++(x.parts.map (·.type)).take k) wr/\Ext w0 wr)) (fun _ i _=>x.parts.length-(intOf i).toNat)
  case atStart=>exact ⟨0,Nat.zero_le _,rfl,by simpa using H1.out,HE1.out⟩
  case round =>
   obtain ⟨k,hk,rfl,hH⟩:=hrel;have HE2:=dh hH.out.2;have H2:=dh hH.out.1;clear hH;by_cases hlt:k<x.parts.length
   ·have hpk:=Parts.mono HE2.out Hp.out;obtain ⟨b,off,rfl,hlt2,d0,d1,_⟩:=Parts.at hpk hlt;clear hpk;have H3:=dh (hJa.out _ wr (.cells #[.string (nth x.parts k).name,.int .i64 (nth x.parts k).type] 83) H2.out);obtain ⟨fn,tmps,assign,body,hy,hR⟩:=hY2.out _ (nth x.parts k).type _ (refs_parts x hlt) H3.out (HE2.out.trans (Ext.alloc _ _));gi_wp2_with fail;refine ⟨fun h=>(by cases h),hR.mono ?_⟩;rintro e W3 (⟨rfl,hH⟩ | ⟨rfl,hJx⟩)
    ·gi_wp2_with fail;go_roundw
     case rel=>exact ⟨k+1,by omega,by go_num,by rw [take_snoc_map (·.type) hlt,<- List.append_assoc]; exact hH.out.1,hH.out.2.1⟩
     case measure=>simp [intOf]; omega
    ·gi_wp2_with fail;refine bodyPost_ret (results_none rfl _ _ _) rfl ?_;exact ⟨⟨_,rfl⟩,.inr ⟨_,refs_parts x hlt,hJx.out⟩⟩
   ·have:k=x.parts.length:=by omega
    subst this;have c8:=(Hx.out.ext HE2.out).cell (j:=8) rfl
    gi_upto_region 7 with (fail)
    gi_loopw [6,8,35] (fun _ _ i wx=>∃ k:Nat,k<=x.methods.length/\i=.int .i64 k/\Hid (J (refsUpTo x k) wx/\Ext w0 wx)) (fun _ _ i _=>x.methods.length-(intOf i).toNat)
    case atStart=>exact ⟨0,Nat.zero_le _,rfl,by have:=H2.out; rw [List.take_of_length_le (by simp)] at this; simpa [refsUpTo] using this,HE2.out⟩
    case round =>
     clear H1 H2 HE2 c8;obtain ⟨k,hk,rfl,hH⟩:=hrel;have HE2:=dh hH.out.2;have H2:=dh hH.out.1;clear hH;by_cases hlt:k<x.methods.length
     ·
      obtain ⟨b,off,aa,al,ac,ra,rl,rc,hoff,hlt2,d0,d1,d2,d3,d4,ha,hr,hr0,hr1,_⟩:=Meths.at Hm.out hlt;clear hr;have d0:=HE2.out.cell d0;have d1:=HE2.out.cell d1;have d2:=HE2.out.cell d2;have d3:=HE2.out.cell d3;have d4:=HE2.out.cell d4;have hlt2:=cell_lt d0;simp only at hlt2;subst hoff
      gi_upto_region 10 with (fail)
      have hab:=(SlW.bound ha).2;obtain rfl:=SlW.len ha;obtain ⟨W8,hW8⟩:∃ W8:World,W8=wr.alloc (.cells #[.string (nth x.methods k).name,.slice aa (nth x.methods k).sig.args.length ac,.int .i64 (nth x.methods k).sig.result,.slice ra rl rc,.string (nth x.methods k).proc] 88):=⟨_,rfl⟩;rw [<- hW8];have hE8:Ext wr W8:=by rw [hW8]; exact Ext.alloc _ _
      have hb8:W8.heap[wr.heap.size]? = some (.cells #[.string (nth x.methods k).name,.slice aa (nth x.methods k).sig.args.length ac,.int .i64 (nth x.methods k).sig.result,.slice ra rl rc,.string (nth x.methods k).proc] 88 (0,0)):=by rw [hW8]; exact heap_alloc_new _ _
      have H8:Hid (J (refsUpTo x k) W8):=by rw [hW8]; exact hJa.out _ _ _ H2.out
      clear hW8 d0 d1 d2 d3 d4;have HE8:=dh (HE2.out.trans hE8);have Ha:=dh ha;clear hE8 ha H2 HE2;obtain ⟨b8,h8⟩:∃ b8,b8=wr.heap.size:=⟨_,rfl⟩;rw [<- h8] at hb8 ⊢;clear h8;have Hb8:=dh hb8; clear hb8
      gi_loopw [8,43] (fun _ i wx=>∃ d:Nat,d<=(nth x.methods k).sig.args.length/\i=.int .i64 d/\Hid (J (refsUpTo x k++(nth x.methods k).sig.args.take d) wx/\Ext w0 wx/\wx.heap[b8]? = some (Obj.cells #[.string (nth x.methods k).name,.slice aa (nth x.methods k).sig.args.length ac,.int .i64 (nth x.methods k).sig.result,.slice ra rl rc,.string (nth x.methods k).proc] 88 (0,0)))) (fun _ i _=>(nth x.methods k).sig.args.length-(intOf i).toNat)
      case atStart=>exact ⟨0,Nat.zero_le _,rfl,by simpa using H8.out,HE8.out,Hb8.out⟩
      case round =>
       clear H8 Hb8;obtain ⟨d,hd,rfl,hH⟩:=hrel;have H2:=dh hH.out.1;have HE2:=dh hH.out.2.1;have Hb8:=dh hH.out.2.2;clear hH;by_cases hdl:d<(nth x.methods k).sig.args.length
       ·obtain ⟨fn,tmps,assign,body,hy,hR⟩:=hY2.out _ (nth (nth x.methods k).sig.args d) _ (refs_args x hlt hdl) H2.out HE2.out;obtain ⟨b,off,hoff,hlt3,e0,_⟩:=Ints.at (Ints.mono HE2.out Ha.out) hdl;subst hoff;gi_wp2_with fail;refine ⟨fun h=>(by cases h),hR.mono ?_⟩;rintro e W3 (⟨rfl,hH⟩ | ⟨rfl,hJx⟩)
        ·gi_wp2_with fail;go_roundw
         case rel=>exact ⟨d+1,by omega,by go_num,by rw [take_snoc hdl,<- List.append_assoc]; exact hH.out.1,hH.out.2.1,hH.out.2.2 _ _ _ Hb8.out⟩
         case measure=>simp [intOf]; omega
        ·gi_wp2_with fail;refine bodyPost_ret (results_none rfl _ _ _) rfl ?_;exact ⟨⟨_,rfl⟩,.inr ⟨_,refs_args x hlt hdl,hJx.out⟩⟩
       ·have:d=(nth x.methods k).sig.args.length:=by omega
        subst this;have e2:=cell_of_heap Hb8.out (j:=2) rfl;have H3:Hid (J (refsUpTo x k++(nth x.methods k).sig.args) wr):=by have:=H2.out; rw [List.take_length] at this; exact this
        by_cases hr2:0<=(nth x.methods k).sig.result
        ·obtain ⟨fn,tmps,assign,body,hy,hR⟩:=hY2.out _ (nth x.methods k).sig.result _ (by rw [refs_result x hlt hr2]; exact refsUpTo_prefix _ _) H3.out HE2.out;gi_wp2_with fail;refine ⟨fun h=>(by cases h),hR.mono ?_⟩;rintro e W3 (⟨rfl,hH⟩ | ⟨rfl,hJx⟩)
         ·gi_wp2_with fail;go_roundw
          case rel=>exact ⟨k+1,by omega,by go_num,by rw [<- refs_result x hlt hr2]; exact hH.out.1,hH.out.2.1⟩
          case measure=>simp [intOf]; omega
         ·gi_wp2_with fail;refine bodyPost_ret (results_none rfl _ _ _) rfl ?_;exact ⟨⟨_,rfl⟩,.inr ⟨_,by rw [refs_result x hlt hr2]; exact refsUpTo_prefix _ _,hJx.out⟩⟩
        ·have H4:Hid (J (refsUpTo x (k+1)) wr):=by rw [<- refs_noResult x hlt hr2]; exact H3
         gi_wp2_with fail;refine ⟨fun _ h=>(by cases h),?_⟩;gi_wp2_with fail;go_roundw
         case rel=>exact ⟨k+1,by omega,by go_num,H4.out,HE2.out⟩
         case measure=>simp [intOf]; omega
     ·have:k=x.methods.length:=by omega
      subst this;gi_wp2_with fail
      go_end0
      exact ⟨⟨_,rfl⟩,.inl ⟨_,(refsUpTo_all x),H2.out⟩⟩
end
end Go.Proofs.YtjffkeoajkhbmaaGreat
