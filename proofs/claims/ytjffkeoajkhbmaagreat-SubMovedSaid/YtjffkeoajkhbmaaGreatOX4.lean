/- A region that draws its order, walked once: what only reads is taken as soon as it may, what makes memory when nothing else may come up. The rules of types, each of which looks at some fields of a type in a box, and clears them. -/
import Derived.OrdersHeld
import Derived.Test.YtjffkeoajkhbmaaGreatOX0
import Derived.Test.YtjffkeoajkhbmaaGreatOX3
namespace Go.Proofs.YtjffkeoajkhbmaaGreat
set_option linter.unusedSimpArgs false
set_option linter.unusedVariables false
set_option maxRecDepth 100000
set_option maxHeartbeats 8000000
section
open Go.RowKit Go.Proofs
section
variable {P:Program} {ops:Array Oper} {Q:Exit->Act->World->Prop} {md:Region.Mode} {S:World->Prop}
def wpX (P:Program) (md:Region.Mode) (ops:Array Oper) (fin:Nat) (Q:Exit->Act->World->Prop) (S:World->Prop):Nat->Array Bool->Act->World->Prop
 | 0,listed,a,w=>Region.ready md ops listed=[]/\Q .normal a w
 | fuel+1,listed,a,w =>
  (Region.ready md ops listed=[]->Q .normal a w) /\
  ∀ i∈Region.ready md ops listed,wpOp P ops Q i (fun a' w'=>(i≠fin->S w')/\wpX P md ops fin Q S fuel (listed.setIfInBounds i true) a' w') a w
def finOk (md:Region.Mode) (ops:Array Oper) (fin:Nat):Bool :=
 match ops[fin]? with
 | none=>true
 | some o=>(List.range ops.size).all fun k=>k==fin||o.after.any fun e=>Region.binds md e&&e.on==k
variable {fin:Nat}
theorem wpAny_of_X:∀ (fuel:Nat) (listed:Array Bool) (a:Act) (w:World),wpX P md ops fin Q S fuel listed a w->wpAny P md ops Q fuel listed a w
 | 0,_,_,_,h=>h
 | fuel+1,_,_,_,h=>⟨h.1,fun i hi=>wpOp_mono (fun a' w' h'=>wpAny_of_X fuel _ a' w' h'.2) (h.2 i hi)⟩
theorem wpX_mono {S':World->Prop} (hS:∀ w,S' w->S w):∀ (fuel:Nat) (listed:Array Bool) (a:Act) (w:World),wpX P md ops fin Q S' fuel listed a w->wpX P md ops fin Q S fuel listed a w
 | 0,_,_,_,h=>h
 | fuel+1,_,_,_,h=>⟨h.1,fun i hi=>wpOp_mono (fun a' w' h'=>⟨fun hn=>hS _ (h'.1 hn),wpX_mono hS fuel _ a' w' h'.2⟩) (h.2 i hi)⟩
theorem wpX_first (hfin:finOk md ops fin=true) {i:Nat} {oi:Oper} {v:Value} (hi:ops[i]? = some oi) (hsel:∀ (j:Nat) (o:Oper) cs b,ops[j]? = some o->o.op≠.select cs b)
  (hQ:∀ c a w,Q (.panic c) (a.put oi.dst v) w->Q (.panic c) a w) :
  ∀ (fuel:Nat) (listed:Array Bool) (a:Act) (w:World),
   (∀ j oj,ops[j]? = some oj->j≠i->listed.getD j true=false->(∀ e∈oj.after,Region.binds md e=true->e.on≠i)->oi.apart ops oj=true) ->
   i∈Region.ready md ops listed->YieldsIf P ops S oi v a->S w ->
   wpX P md ops fin Q S fuel (listed.setIfInBounds i true) (a.put oi.dst v) w->wpX P md ops fin Q S (fuel+1) listed a w:=by
 intro fuel
 induction fuel with
 | zero =>
  intro listed a w _ hr hy hS H;refine ⟨fun h=>(by rw [h] at hr; cases hr),fun j hj=>?_⟩;by_cases hji:j=i
  ·subst hji; exact hy.wpOp hi hS ⟨fun _=>hS,H⟩
  ·have:=ready_mono hj hji;rw [H.1] at this;cases this
 | succ fuel ih =>
  intro listed a w hfree hr hy hS H;refine ⟨fun h=>(by rw [h] at hr; cases hr),fun j hj=>?_⟩;by_cases hji:j=i
  ·subst hji; exact hy.wpOp hi hS ⟨fun _=>hS,H⟩
  ·have h1:=H.2 j (ready_mono hj hji);obtain ⟨hjun,oj,hoj,hall⟩:=mem_ready.1 hj;have hnot:∀ e∈oj.after,Region.binds md e=true->e.on≠i:=fun e he hb heq=>by
    have h1:=hall e he hb;have h0:=(mem_ready.1 hr).1;rw [heq] at h1;rcases Nat.lt_or_ge i listed.size with h' | h'
    ·simp [h'] at h0 h1; rw [h0] at h1; cases h1
    ·simp [Array.getElem?_eq_none h'] at h1
   have hnf:j≠fin:=by
    intro hjf;subst hjf;unfold finOk at hfin;rw [hoj] at hfin;have hlt:i<ops.size:=(Array.getElem?_eq_some_iff.1 hi).1;have:=List.all_eq_true.1 hfin i (List.mem_range.2 hlt);simp only [Bool.or_eq_true,beq_iff_eq,Ne.symm hji,false_or,Array.any_eq_true,Bool.and_eq_true] at this;obtain ⟨k,hk,hb,he⟩:=this;exact hnot _ (Array.getElem_mem hk) hb he
   have h2:=wpOp_putIf hoj (hfree j oj hoj hji hjun hnot) (fun cs b=>hsel i oi cs b hi) (fun cs b=>hsel j oj cs b hoj) hQ hy h1;have hfree':∀ k ok,ops[k]? = some ok->k≠i->(listed.setIfInBounds j true).getD k true=false ->
     (∀ e∈ok.after,Region.binds md e=true->e.on≠i)->oi.apart ops ok=true:=fun k ok hk hki hun hno=>by
    refine hfree k ok hk hki ?_ hno;by_cases hjk:j=k
    ·subst hjk; exact hjun
    ·rw [getD_set_ne true hjk] at hun; exact hun
   refine wpOp_mono (fun a' w' h3=>⟨fun _=>h3.2.1 hnf,ih (listed.setIfInBounds j true) a' w' hfree' (ready_mono hr (Ne.symm hji)) h3.1 (h3.2.1 hnf) ?_⟩) h2;rw [Array.setIfInBounds_comm _ _ hji];exact h3.2.2
def wpE (P:Program) (md:Region.Mode) (ops:Array Oper) (fin:Nat) (Q:Exit->Act->World->Prop) (fuel:Nat) (listed:Array Bool) (a:Act) (w:World):Prop :=
 finOk md ops fin=true/\wpX P md ops fin Q (Ext w) fuel listed a w
theorem wp_region_E {id:Nat} {a:Act} {w:World} (fin:Nat) (hm:P.follows .mixedOrders=true)
  (h:wpE P .any ops fin Q ops.size (Array.replicate ops.size false) a w.drew):(Code.region id ops true).wp P Q a w :=
 wp_region_any hm (wpAny_of_X _ _ _ _ h.2)
theorem wpE_take {i:Nat} {oi:Oper} {v:Value} {fuel:Nat} {listed:Array Bool} {a:Act} {w:World} (hi:ops[i]? = some oi)
  (hs:Region.noSelect ops=true) (hf:Region.free md ops listed i=true) (hr:(Region.ready md ops listed).contains i=true)
  (hQ:∀ c a w,Q (.panic c) (a.put oi.dst v) w->Q (.panic c) a w) (hy:YieldsIf P ops (Ext w) oi v a)
  (h:wpE P md ops fin Q fuel (listed.setIfInBounds i true) (a.put oi.dst v) w):wpE P md ops fin Q (fuel+1) listed a w :=
 ⟨h.1,wpX_first h.1 hi (Region.noSelect_spec hs) hQ fuel listed a w (Region.free_spec hi hf) (by simpa using hr) hy (Ext.refl w) h.2⟩
theorem tE {i:Nat} {oi:Oper} {v:Value} {fuel:Nat} {listed:Array Bool} {a:Act} {w:World} (h0:∀ w',Ext w w'->(execOp a.eval oi).run P w'=.ok (.value v) w')
  (h:wpE P md ops fin Q fuel (listed.setIfInBounds i true) (a.put oi.dst v) w) (hi:ops[i]? = some oi:=by exact rfl)
  (hs:Region.noSelect ops=true:=by kernel_rfl) (hf:Region.free md ops listed i=true:=by kernel_rfl) (hr:(Region.ready md ops listed).contains i=true:=by kernel_rfl)
  (hQ:∀ c a w,Q (.panic c) (a.put oi.dst v) w->Q (.panic c) a w:=by exact fun _ _ _ h=>h) (hw:Region.wanted oi (yielded ops a.tmps)=true:=by kernel_rfl):wpE P md ops fin Q (fuel+1) listed a w :=
 wpE_take hi hs hf hr hQ (Or.inl ⟨hw,h0⟩) h
theorem wpE_only {i:Nat} {oi:Oper} {fuel:Nat} {listed:Array Bool} {a:Act} {w:World} (hi:ops[i]? = some oi) (hfin:finOk md ops fin=true) (hr:Region.ready md ops listed=[i])
  (h:∀ K:Act->World->Prop,(∀ a' w',Ext w w'->wpE P md ops fin Q fuel (listed.setIfInBounds i true) a' w'->K a' w') ->
   if Region.wanted oi (yielded ops a.tmps) then oi.wp P a w K Q else K (a.put oi.dst undef) w):wpE P md ops fin Q (fuel+1) listed a w:=by
 refine ⟨hfin,fun h0=>absurd (hr ▸ h0) (by simp),fun j hj=>?_⟩;rw [hr] at hj;obtain rfl:=List.mem_singleton.1 hj;have:=h (fun a' w'=>(j≠fin->Ext w w')/\wpX P md ops fin Q (Ext w) fuel (listed.setIfInBounds j true) a' w')
  (fun a' w' hE hX=>⟨fun _=>hE,wpX_mono (fun u hu=>hE.trans hu) _ _ _ _ hX.2⟩)
 unfold wpOp;simp only [hi];split
 ·rename_i hw; rw [if_pos hw] at this; exact .inl this
 ·rename_i hw; rw [if_neg hw] at this; exact this
theorem wpE_last {oi:Oper} {fuel:Nat} {listed:Array Bool} {a:Act} {w:World} (hi:ops[fin]? = some oi) (hfin:finOk md ops fin=true) (hr:Region.ready md ops listed=[fin])
  (hd:Region.ready md ops (listed.setIfInBounds fin true)=[])
  (h:∀ K:Act->World->Prop,(∀ a' w',Q .normal a' w'->K a' w') ->
   if Region.wanted oi (yielded ops a.tmps) then oi.wp P a w K Q else K (a.put oi.dst undef) w):wpE P md ops fin Q (fuel+1) listed a w:=by
 refine ⟨hfin,fun h0=>absurd (hr ▸ h0) (by simp),fun j hj=>?_⟩;rw [hr] at hj;obtain rfl:=List.mem_singleton.1 hj;have hX:∀ a' w',Q .normal a' w'->wpX P md ops j Q (Ext w) fuel (listed.setIfInBounds j true) a' w':=fun a' w' hq=>by
  cases fuel with
  | zero=>exact ⟨hd,hq⟩
  | succ fuel=>exact ⟨fun _=>hq,by rw [hd]; simp⟩
 have:=h (fun a' w'=>(j≠j->Ext w w')/\wpX P md ops j Q (Ext w) fuel (listed.setIfInBounds j true) a' w')
  (fun a' w' hq=>⟨fun h=>absurd rfl h,hX a' w' hq⟩)
 unfold wpOp;simp only [hi];split
 ·rename_i hw; rw [if_pos hw] at this; exact .inl this
 ·rename_i hw; rw [if_neg hw] at this; exact this
theorem wpE_done {fuel:Nat} {listed:Array Bool} {a:Act} {w:World} (hfin:finOk md ops fin=true) (hr:Region.ready md ops listed=[]) (h:Q .normal a w):wpE P md ops fin Q fuel listed a w:=by
 refine ⟨hfin,?_⟩;cases fuel with
 | zero=>exact ⟨hr,h⟩
 | succ fuel=>exact ⟨fun _=>h,by rw [hr]; simp⟩
def wpM (P:Program) (md:Region.Mode) (ops:Array Oper) (fin bx:Nat) (Q:Exit->Act->World->Prop) (fuel:Nat) (listed:Array Bool) (a:Act) (w:World):Prop :=
 finOk md ops fin=true/\wpX P md ops fin Q (fun u=>w.grownBy u (some bx)) fuel listed a w
theorem wp_region_M {id:Nat} {a:Act} {w:World} (fin bx:Nat) (hm:P.follows .mixedOrders=true)
  (h:wpM P .any ops fin bx Q ops.size (Array.replicate ops.size false) a w.drew):(Code.region id ops true).wp P Q a w :=
 wp_region_any hm (wpAny_of_X _ _ _ _ h.2)
theorem grownBy_refl (w:World) (b:Option Nat):w.grownBy w b:=⟨rfl,rfl,rfl,Nat.le_refl _,fun _ _ _=>rfl⟩
theorem grownBy_ext {w u v:World} {b:Option Nat} (h:w.grownBy u b) (hE:Ext u v):w.grownBy v b :=
 ⟨hE.os.trans h.os,hE.tape.trans h.tape,hE.output.trans h.output,Nat.le_trans h.size hE.size,fun k hk hb=>(hE.block k (Nat.lt_of_lt_of_le hk h.size)).trans (h.block k hk hb)⟩
theorem grownBy_trans {w u v:World} {b:Option Nat} (h:w.grownBy u b) (k:u.grownBy v b):w.grownBy v b :=
 ⟨k.os.trans h.os,k.tape.trans h.tape,k.output.trans h.output,Nat.le_trans h.size k.size,fun j hj hb=>(k.block j (Nat.lt_of_lt_of_le hj h.size) hb).trans (h.block j hj hb)⟩
theorem grownBy_set {w u:World} {b:Nat} (h:w.grownBy u (some b)) (j:Nat) (v:Value):w.grownBy (u.setCell ⟨b,j,none⟩ v) (some b) :=
 grownBy_trans h ⟨rfl,rfl,rfl,by simp [World.setCell],fun k _ hb=>Below.heap_setCell _ _ _ _ (fun e=>hb (by rw [e]))⟩
theorem grownBy_drewN {w u:World} {b:Option Nat} (h:w.grownBy u b) (n:Nat):w.grownBy (u.drewN n) b:=⟨h.os,h.tape,h.output,h.size,h.block⟩
theorem wpM_take {bx i:Nat} {oi:Oper} {v:Value} {fuel:Nat} {listed:Array Bool} {a:Act} {w:World} (hi:ops[i]? = some oi)
  (hs:Region.noSelect ops=true) (hf:Region.free md ops listed i=true) (hr:(Region.ready md ops listed).contains i=true)
  (hQ:∀ c a w,Q (.panic c) (a.put oi.dst v) w->Q (.panic c) a w) (hy:YieldsIf P ops (fun u=>w.grownBy u (some bx)) oi v a)
  (h:wpM P md ops fin bx Q fuel (listed.setIfInBounds i true) (a.put oi.dst v) w):wpM P md ops fin bx Q (fuel+1) listed a w :=
 ⟨h.1,wpX_first h.1 hi (Region.noSelect_spec hs) hQ fuel listed a w (Region.free_spec hi hf) (by simpa using hr) hy (grownBy_refl w _) h.2⟩
theorem wpM_only {bx i:Nat} {oi:Oper} {fuel:Nat} {listed:Array Bool} {a:Act} {w:World} (hi:ops[i]? = some oi) (hfin:finOk md ops fin=true) (hr:Region.ready md ops listed=[i])
  (h:∀ K:Act->World->Prop,(∀ a' w',w.grownBy w' (some bx)->wpE P md ops fin Q fuel (listed.setIfInBounds i true) a' w'->K a' w') ->
   if Region.wanted oi (yielded ops a.tmps) then oi.wp P a w K Q else K (a.put oi.dst undef) w):wpM P md ops fin bx Q (fuel+1) listed a w:=by
 refine ⟨hfin,fun h0=>absurd (hr ▸ h0) (by simp),fun j hj=>?_⟩;rw [hr] at hj;obtain rfl:=List.mem_singleton.1 hj;have:=h (fun a' w'=>(j≠fin->w.grownBy w' (some bx))/\wpX P md ops fin Q (fun u=>w.grownBy u (some bx)) fuel (listed.setIfInBounds j true) a' w')
  (fun a' w' hE hX=>⟨fun _=>hE,wpX_mono (fun u hu=>grownBy_ext hE hu) _ _ _ _ hX.2⟩)
 unfold wpOp;simp only [hi];split
 ·rename_i hw; rw [if_pos hw] at this; exact .inl this
 ·rename_i hw; rw [if_neg hw] at this; exact this
theorem wpM_keep {bx i:Nat} {oi:Oper} {fuel:Nat} {listed:Array Bool} {a:Act} {w:World} (hi:ops[i]? = some oi) (hfin:finOk md ops fin=true) (hr:Region.ready md ops listed=[i])
  (h:∀ K:Act->World->Prop,(∀ a' w',w.grownBy w' (some bx)->wpM P md ops fin bx Q fuel (listed.setIfInBounds i true) a' w'->K a' w') ->
   if Region.wanted oi (yielded ops a.tmps) then oi.wp P a w K Q else K (a.put oi.dst undef) w):wpM P md ops fin bx Q (fuel+1) listed a w:=by
 refine ⟨hfin,fun h0=>absurd (hr ▸ h0) (by simp),fun j hj=>?_⟩;rw [hr] at hj;obtain rfl:=List.mem_singleton.1 hj;have:=h (fun a' w'=>(j≠fin->w.grownBy w' (some bx))/\wpX P md ops fin Q (fun u=>w.grownBy u (some bx)) fuel (listed.setIfInBounds j true) a' w')
  (fun a' w' hE hX=>⟨fun _=>hE,wpX_mono (fun u hu=>grownBy_trans hE hu) _ _ _ _ hX.2⟩)
 unfold wpOp;simp only [hi];split
 ·rename_i hw; rw [if_pos hw] at this; exact .inl this
 ·rename_i hw; rw [if_neg hw] at this; exact this
theorem wpS_only {i:Nat} {oi:Oper} {fuel:Nat} {listed:Array Bool} {a:Act} {w:World} (hi:ops[i]? = some oi) (hr:Region.ready md ops listed=[i])
  (h:∀ K:Act->World->Prop,(∀ a' w',S w'->wpX P md ops fin Q S fuel (listed.setIfInBounds i true) a' w'->K a' w') ->
   if Region.wanted oi (yielded ops a.tmps) then oi.wp P a w K Q else K (a.put oi.dst undef) w):wpX P md ops fin Q S (fuel+1) listed a w:=by
 refine ⟨fun h0=>absurd (hr ▸ h0) (by simp),fun j hj=>?_⟩;rw [hr] at hj;obtain rfl:=List.mem_singleton.1 hj;have:=h (fun a' w'=>(j≠fin->S w')/\wpX P md ops fin Q S fuel (listed.setIfInBounds j true) a' w') (fun a' w' hE hX=>⟨fun _=>hE,hX⟩);unfold wpOp;simp only [hi];split
 ·rename_i hw; rw [if_pos hw] at this; exact .inl this
 ·rename_i hw; rw [if_neg hw] at this; exact this
theorem wpS_two {i j:Nat} {oi oj:Oper} {fuel:Nat} {listed:Array Bool} {a:Act} {w:World} (hi:ops[i]? = some oi) (hj:ops[j]? = some oj) (hr:Region.ready md ops listed=[i,j])
  (h:∀ K:Act->World->Prop,(∀ a' w',S w'->wpX P md ops fin Q S fuel (listed.setIfInBounds i true) a' w'->K a' w') ->
   if Region.wanted oi (yielded ops a.tmps) then oi.wp P a w K Q else K (a.put oi.dst undef) w)
  (h2:∀ K:Act->World->Prop,(∀ a' w',S w'->wpX P md ops fin Q S fuel (listed.setIfInBounds j true) a' w'->K a' w') ->
   if Region.wanted oj (yielded ops a.tmps) then oj.wp P a w K Q else K (a.put oj.dst undef) w):wpX P md ops fin Q S (fuel+1) listed a w:=by
 refine ⟨fun h0=>absurd (hr ▸ h0) (by simp),fun k hk=>?_⟩;rw [hr] at hk;rcases List.mem_cons.1 hk with rfl | hk
 ·have:=h (fun a' w'=>(k≠fin->S w')/\wpX P md ops fin Q S fuel (listed.setIfInBounds k true) a' w') (fun a' w' hE hX=>⟨fun _=>hE,hX⟩);unfold wpOp;simp only [hi];split
  ·rename_i hw; rw [if_pos hw] at this; exact .inl this
  ·rename_i hw; rw [if_neg hw] at this; exact this
 ·obtain rfl:=List.mem_singleton.1 hk;have:=h2 (fun a' w'=>(k≠fin->S w')/\wpX P md ops fin Q S fuel (listed.setIfInBounds k true) a' w') (fun a' w' hE hX=>⟨fun _=>hE,hX⟩);unfold wpOp;simp only [hj];split
  ·rename_i hw; rw [if_pos hw] at this; exact .inl this
  ·rename_i hw; rw [if_neg hw] at this; exact this
theorem wpS_done {fuel:Nat} {listed:Array Bool} {a:Act} {w:World} (hr:Region.ready md ops listed=[]) (h:Q .normal a w):wpX P md ops fin Q S fuel listed a w:=by
 cases fuel with
 | zero=>exact ⟨hr,h⟩
 | succ fuel=>exact ⟨fun _=>h,by rw [hr]; simp⟩
end
section
variable {P:Program} {ops:Array Oper} {Q:Exit->Act->World->Prop} {md:Region.Mode} {fin:Nat}
theorem Zf (i:Nat) {oi:Oper} {v:Value} {fuel:Nat} {listed l1:Array Bool} {a a1:Act} {w:World} (hi:ops[i]? = some oi) (h0:∀ w',Ext w w'->(execOp a.eval oi).run P w'=.ok (.value v) w') (h:wpE P md ops fin Q fuel l1 a1 w) (hs:Region.noSelect ops=true:=by kernel_rfl) (hf:Region.free md ops listed i=true:=by kernel_rfl) (hr:(Region.ready md ops listed).contains i=true:=by kernel_rfl) (hQ:∀ c a w,Q (.panic c) (a.put oi.dst v) w->Q (.panic c) a w:=by exact fun _ _ _ h=>h) (hw:Region.wanted oi (yielded ops a.tmps)=true:=by kernel_rfl) (hp:a.put oi.dst v=a1:=by first | ((try simp only [Act.put,nm]); with_reducible rfl) | (simp only [Act.put,nm]; done)) (hl1:listed.setIfInBounds i true=l1:=by first | ((try simp only [Act.put,nm]); with_reducible rfl) | (simp only [Act.put,nm]; done)):wpE P md ops fin Q (fuel+1) listed a w:=by
 subst hp; subst hl1; exact wpE_take hi hs hf hr hQ (Or.inl ⟨hw,h0⟩) h
theorem Zg (i:Nat) {oi:Oper} {v:Value} {fuel:Nat} {listed l1:Array Bool} {a a1:Act} {w:World} (h:wpE P md ops fin Q fuel l1 a1 w) (hi:ops[i]? = some oi:=by exact rfl) (h0:∀ w',Ext w w'->(execOp a.eval oi).run P w'=.ok (.value v) w':=by intro w9 hE; clear hE; first | (go_simp; done) | (go_simp; with_reducible rfl)) (hs:Region.noSelect ops=true:=by kernel_rfl) (hf:Region.free md ops listed i=true:=by kernel_rfl) (hr:(Region.ready md ops listed).contains i=true:=by kernel_rfl) (hQ:∀ c a w,Q (.panic c) (a.put oi.dst v) w->Q (.panic c) a w:=by exact fun _ _ _ h=>h) (hw:Region.wanted oi (yielded ops a.tmps)=true:=by kernel_rfl) (hp:a.put oi.dst v=a1:=by first | ((try simp only [Act.put,nm]); with_reducible rfl) | (simp only [Act.put,nm]; done)) (hl1:listed.setIfInBounds i true=l1:=by first | ((try simp only [Act.put,nm]); with_reducible rfl) | (simp only [Act.put,nm]; done)):wpE P md ops fin Q (fuel+1) listed a w :=
 Zf i hi h0 h hs hf hr hQ hw hp hl1
theorem Zc (i:Nat) {oi:Oper} {v:Value} {fuel:Nat} {listed l1:Array Bool} {a a1:Act} {w:World} {ad:Addr} {u:Value} (hc:w.cell? ad=some u) (h:wpE P md ops fin Q fuel l1 a1 w) (hi:ops[i]? = some oi:=by exact rfl) (h0:∀ w',w'.cell? ad=some u->(execOp a.eval oi).run P w'=.ok (.value v) w':=by intro w9 hc; first | (go_simp; done) | (go_simp; with_reducible rfl)) (hs:Region.noSelect ops=true:=by kernel_rfl) (hf:Region.free md ops listed i=true:=by kernel_rfl) (hr:(Region.ready md ops listed).contains i=true:=by kernel_rfl) (hQ:∀ c a w,Q (.panic c) (a.put oi.dst v) w->Q (.panic c) a w:=by exact fun _ _ _ h=>h) (hw:Region.wanted oi (yielded ops a.tmps)=true:=by kernel_rfl) (hp:a.put oi.dst v=a1:=by first | ((try simp only [Act.put,nm]); with_reducible rfl) | (simp only [Act.put,nm]; done)) (hl1:listed.setIfInBounds i true=l1:=by first | ((try simp only [Act.put,nm]); with_reducible rfl) | (simp only [Act.put,nm]; done)):wpE P md ops fin Q (fuel+1) listed a w :=
 Zf i hi (fun w' hE=>h0 w' (hE.cell hc)) h hs hf hr hQ hw hp hl1
theorem Zo (i:Nat) {oi:Oper} {fuel:Nat} {listed:Array Bool} {a:Act} {w:World} (h:∀ K:Act->World->Prop,(∀ a' w',Ext w w'->wpE P md ops fin Q fuel (listed.setIfInBounds i true) a' w'->K a' w') ->
  if Region.wanted oi (yielded ops a.tmps) then oi.wp P a w K Q else K (a.put oi.dst undef) w) (hi:ops[i]? = some oi:=by exact rfl) (hfin:finOk md ops fin=true:=by kernel_rfl) (hr:Region.ready md ops listed=[i]:=by kernel_rfl):wpE P md ops fin Q (fuel+1) listed a w:=wpE_only hi hfin hr h
theorem Zs (i:Nat) {oi:Oper} {fuel:Nat} {listed l1:Array Bool} {a a1:Act} {w:World} (h:wpE P md ops fin Q fuel l1 a1 w) (hi:ops[i]? = some oi:=by exact rfl) (hs:Region.noSelect ops=true:=by kernel_rfl) (hf:Region.free md ops listed i=true:=by kernel_rfl) (hr:(Region.ready md ops listed).contains i=true:=by kernel_rfl) (hQ:∀ c a w,Q (.panic c) (a.put oi.dst undef) w->Q (.panic c) a w:=by exact fun _ _ _ h=>h) (hw:Region.wanted oi (yielded ops a.tmps)=false:=by kernel_rfl) (hp:a.put oi.dst undef=a1:=by first | ((try simp only [Act.put,nm]); with_reducible rfl) | (simp only [Act.put,nm]; done)) (hl1:listed.setIfInBounds i true=l1:=by first | ((try simp only [Act.put,nm]); with_reducible rfl) | (simp only [Act.put,nm]; done)):wpE P md ops fin Q (fuel+1) listed a w:=by
 subst hp; subst hl1; exact wpE_take hi hs hf hr hQ (Or.inr ⟨hw,rfl⟩) h
theorem Zd {fuel:Nat} {listed:Array Bool} {a:Act} {w:World} (h:Q .normal a w) (hfin:finOk md ops fin=true:=by kernel_rfl) (hr:Region.ready md ops listed=[]:=by kernel_rfl):wpE P md ops fin Q fuel listed a w:=wpE_done hfin hr h
theorem Zr (fin:Nat) {id:Nat} {a:Act} {w:World} (h:wpE P .any ops fin Q ops.size (Array.replicate ops.size false) a w.drew) (hm:P.follows .mixedOrders=true:=by kernel_rfl):(Code.region id ops true).wp P Q a w:=wp_region_E fin hm h
end
end
section
open Go.RowKit Go.Proofs
def Box (w:World) (bx:Nat) (t:Ty) (pv mv ov:Value):Prop:=w.heap[bx]? = some (.cells (tyCells t pv mv ov).toArray 50 (0,0))
theorem Box.cell {w:World} {bx:Nat} {t:Ty} {pv mv ov:Value} (h:Box w bx t pv mv ov) {j:Nat} {v:Value} (hj:(tyCells t pv mv ov)[j]? = some v):w.cell? ⟨bx,j,none⟩=some v:=by
 unfold World.cell?;rw [show w.heap[(⟨bx,j,none⟩:Addr).block]? = some (.cells (tyCells t pv mv ov).toArray 50 (0,0)) from h]
 simpa using hj
theorem Box.free {w:World} {bx:Nat} {t:Ty} {pv mv ov:Value} (h:Box w bx t pv mv ov) (j:Nat):w.frozen? ⟨bx,j,none⟩=false:=by
 unfold World.frozen?;rw [show w.heap[(⟨bx,j,none⟩:Addr).block]? = some (.cells (tyCells t pv mv ov).toArray 50 (0,0)) from h];simp
theorem Box.lt {w:World} {bx:Nat} {t:Ty} {pv mv ov:Value} (h:Box w bx t pv mv ov):bx<w.heap.size:=(Array.getElem?_eq_some_iff.1 h).1
theorem Box.ext {w w':World} {bx:Nat} {t:Ty} {pv mv ov:Value} (h:Box w bx t pv mv ov) (hE:Ext w w'):Box w' bx t pv mv ov:=(hE.block bx h.lt).trans h
theorem Box.new (w:World) (t:Ty) (pv mv ov:Value):Box (w.alloc (.cells (tyCells t pv mv ov).toArray 50)) w.heap.size t pv mv ov:=heap_alloc_new w _
theorem Box.set {w:World} {bx:Nat} {t t':Ty} {pv mv ov pv' mv' ov':Value} (h:Box w bx t pv mv ov) {j:Nat} {v:Value} (ht:(tyCells t pv mv ov).toArray.setIfInBounds j v=(tyCells t' pv' mv' ov').toArray) :
  Box (w.setCell ⟨bx,j,none⟩ v) bx t' pv' mv' ov':=by
 unfold Box World.setCell;simp only [Array.getElem?_modify,if_true];rw [show w.heap[bx]? = some (.cells (tyCells t pv mv ov).toArray 50 (0,0)) from h];simp only [Option.map_some,Option.isSome_none,Bool.false_eq_true,if_false,ht]
def clearBrand (t:Ty):Ty:={ t with branded:=false,brand:=⟨#[]⟩ }
def RulePost (w0 w:World) (bx:Nat) (r:Bool) (t':Ty) (pv mv ov:Value) (e:Ending) (w':World):Prop :=
 e=.returned (.bool r)/\Below bx w0 w'/\Box w' bx t' pv mv ov/\w.grownBy w' (some bx)
theorem branded171 (w0 w:World) (a:Option Addr) (n c:Nat) (g:List Ty) (t:Ty) (bx:Nat) (pa:Option Addr) (pl pc:Nat) (mv ov:Value) (h0:bx=w0.heap.size) (hB:Below bx w0 w)
  (hg:Graph w0 (.slice a n c) g) (hp:Parts w0 (.slice pa pl pc) t.parts) (hx:Box w bx t (.slice pa pl pc) mv ov) :
  Calls Tryz.prog 171 #[.agg #[.slice a n c],.pointer (some ⟨bx,0,none⟩)] w (RulePost w0 w bx (brandedB g t) (clearBrand t) (.slice pa pl pc) mv ov):=by
 have hb:=(SlW.bound hg).2;obtain rfl:=SlW.len hg;subst h0;have hlt:=hx.lt
 go_enter Tryz.func171,Tryz.ntmps171
 go_upto_region 1 with (fail);obtain ⟨W,hW⟩:∃ W:World,W=w.alloc (.cells #[.slice a g.length c] 118):=⟨_,rfl⟩;have hEW:Ext w W:=by rw [hW]; exact by (repeat (first | exact Ext.refl _ | (refine Ext.trans ?_ (Hid.out (by assumption))) | (refine Ext.trans ?_ (Ext.alloc _ _)) | (refine Ext.trans ?_ (Ext.drew _)) | (refine below_drewN ?_ _)))
 have hbx:W.cell? ⟨w.heap.size,0,none⟩=some (.slice a g.length c):=by rw [hW]; simp
 rw [<- hW];clear hW;have hg1:=Graph.mono (w':=w) hB hg;have hp1:=Parts.mono hEW (Parts.mono (w':=w) hB hp);have hx1:=hx.ext hEW;have c3:=hx1.cell (j:=3) rfl;have c4:=hx1.cell (j:=4) rfl;have c7:=hx1.cell (j:=7) rfl;have hlt2:=hx1.lt;go_cut [5] (fun v wx=>v=.bool (brandedB g t)/\Hid (Ext W wx))
 case first =>
  have hsp:brandedB g t=(isBrandB t.brand&&(t.branded||t.brand.size==0)&&!(t.parts.any fun p=>!hasI g.length p.type)):=by
   unfold brandedB; rw [List.not_any_eq_all_not]; simp only [Bool.not_not]
  have Hsp:=dh hsp; clear hsp;have HEW:=dh hEW; clear hEW;have HB:=dh hB; clear hB;have Hx:=dh hx; clear hx;have Hx1:=dh hx1; clear hx1;go_wp2_with fail;refine (isBrand181 _ _).mono ?_;rintro e w1 ⟨rfl,hE⟩;have hp1:=Parts.mono hE hp1;have c3:=hE.cell c3;have c4:=hE.cell c4;have c7:=hE.cell c7;have hbx:=hE.cell hbx;have HE1:=dh hE; clear hE;cases hib:isBrandB t.brand
  ·go_wp2_with fail;go_meet;exact ⟨by rw [Hsp.out,hib]; rfl,HE1⟩
  ·have harm:=dh (contains182_p 183 enters183 #[.pointer (some ⟨w.heap.size,0,none⟩)] _ _ _ _ w1 (fun p=>!hasI g.length p.type) hp1
    (fun k w2 hk hE=>branded183 _ a _ c (by omega) (nth t.parts k) w2 (hE.cell hbx)))
   cases hbr:t.branded
   ·by_cases hem:t.brand.toList=[]
    ·have hem2:t.brand.toList.isEmpty=true:=by rw [hem]; rfl
     have hsz:=dh (size_zero hem);clear hem;go_wp2_with fail;refine harm.out.mono ?_;rintro e w2 ⟨rfl,hE⟩;have HE2:=dh hE; clear hE;go_wp2_with fail;go_meet;exact ⟨by rw [Hsp.out,hib,hbr,hsz.out]; rfl,HE1.out.trans HE2.out⟩
    ·have hem2:t.brand.toList.isEmpty=false:=by rw [List.isEmpty_eq_false_iff]; exact hem
     have hsz:=dh (size_pos hem);clear hem;go_wp2_with fail;go_meet;exact ⟨by rw [Hsp.out,hib,hbr,hsz.out]; rfl,HE1⟩
   ·go_wp2_with fail;refine harm.out.mono ?_;rintro e w2 ⟨rfl,hE⟩;have HE2:=dh hE; clear hE;go_wp2_with fail;go_meet;exact ⟨by rw [Hsp.out,hib,hbr]; rfl,HE1.out.trans HE2.out⟩
 case rest =>
  obtain ⟨rfl,hE⟩:=hcut;have hx2:=hx1.ext hE.out;have d3:=hx2.cell (j:=3) rfl;have d4:=hx2.cell (j:=4) rfl;have f3:=hx2.free 3;have f4:=hx2.free 4;have HB2:=dh (Below.trans hB (Below.mono (Ext.trans hEW hE.out) (Nat.le_of_lt hlt)));have HG2:=dh (grownBy_ext (grownBy_refl w (some w0.heap.size)) (Ext.trans hEW hE.out));clear hB hEW hx hx1 c3 c4 c7;have Hx2:=dh hx2; clear hx2;go_wp2_with fail;go_ret;exact ⟨rfl,Below.setCell (Below.setCell HB2.out (Nat.le_refl _) _) (Nat.le_refl _) _,(Hx2.out.set (t':={ t with branded:=false }) rfl).set rfl,grownBy_set (grownBy_set HG2.out _ _) _ _⟩
def clearNums (t:Ty):Ty:={ t with low:=0,high:=0 }
def clearParts (t:Ty):Ty:={ t with branded:=false,brand:=⟨#[]⟩,parts:=[] }
def clearObj (t:Ty):Ty:={ t with branded:=false,brand:=⟨#[]⟩,parts:=[],methods:=[],overs:=[],super:=0 }
def clearOpq (t:Ty):Ty:={ t with opq:=⟨#[]⟩,super:=0 }
theorem nothing145 (w0 w:World) (a:Option Addr) (n c:Nat) (t:Ty) (bx:Nat) (pv mv ov:Value) (hB:Below bx w0 w) (hx:Box w bx t pv mv ov) :
  Calls Tryz.prog 145 #[.agg #[.slice a n c],.pointer (some ⟨bx,0,none⟩)] w (RulePost w0 w bx true t pv mv ov):=by
 have HB:=dh hB; clear hB;have hlt:=hx.lt;have Hx:=dh hx; clear hx
 go_enter Tryz.func145,Tryz.ntmps145
 go_wp2;go_ret;exact ⟨rfl,HB.out.alloc (Nat.le_of_lt hlt) _,Hx.out.ext (Ext.alloc _ _),World.grownBy_alloc _ _ _⟩
theorem in64 (a b c:Int) (w:World):Calls Tryz.prog 64 #[.int .i64 a,.int .i64 b,.int .i64 c] w fun e w'=>e=.returned (.bool (decide (b<=a)&&decide (a<=c)))/\w'=w:=by
 go_enter Tryz.func64,Tryz.ntmps64
 go_wp2
 all_goals go_ret
 all_goals refine ⟨ret_bool (Bool.eq_iff_iff.2 ?_),rfl⟩
 all_goals simp
 all_goals omega
theorem ranged146 (w0 w:World) (a:Option Addr) (n c:Nat) (t:Ty) (bx:Nat) (pv mv ov:Value) (hB:Below bx w0 w) (hx:Box w bx t pv mv ov) :
  Calls Tryz.prog 146 #[.agg #[.slice a n c],.pointer (some ⟨bx,0,none⟩)] w (RulePost w0 w bx (rangedB t) (clearNums t) pv mv ov):=by
 have hlt:=hx.lt;have c1:=hx.cell (j:=1) rfl;have c2:=hx.cell (j:=2) rfl;have hx1:=hx.ext (Ext.alloc w (.cells #[.slice a n c] 118));have f1:=hx.free 1;have f2:=hx.free 2;have HB:=dh (hB.alloc (Nat.le_of_lt hlt) (.cells #[.slice a n c] 118)); clear hB;have Hx:=dh hx1; clear hx hx1;have hend:=dh (show ∀ r,r=rangedB t->∀ W,Below bx w0 W->Box W bx t pv mv ov->w.grownBy W (some bx)->RulePost w0 w bx (rangedB t) (clearNums t) pv mv ov (.returned (.bool r)) ((W.setCell ⟨bx,1,none⟩ (.int .i64 0)).setCell ⟨bx,2,none⟩ (.int .i64 0)) from
  fun r hr W h1 h2 h3=>⟨by rw [hr],Below.setCell (Below.setCell h1 (Nat.le_refl _) _) (Nat.le_refl _) _,(h2.set (t':={ t with low:=0 }) rfl).set rfl,grownBy_set (grownBy_set h3 _ _) _ _⟩)
 cases hlo:(decide (-1000000000<=t.low)&&decide (t.low<=t.high))
 ·have hr:=dh (show false=rangedB t by unfold rangedB; rw [hlo]; rfl);have hin:=dh (fun w=>in64 t.low (-1000000000) t.high w);rw [hlo] at hin;clear hlo
  go_enter Tryz.func146,Tryz.ntmps146
  go_upto_region 1 with (fail)
  go_quiet ((go_at_call 64; exact Calls.quiet_of_same (hin.out _)))
  go_wp2;go_ret;exact hend.out _ hr.out _ (below_drewN HB.out nq) Hx.out (grownBy_drewN (World.grownBy_alloc _ _ _) nq)
 ·have hr:=dh (show decide (t.high<=1000000000)=rangedB t by unfold rangedB; rw [hlo]; rfl);have hin:=dh (fun w=>in64 t.low (-1000000000) t.high w);rw [hlo] at hin;clear hlo
  go_enter Tryz.func146,Tryz.ntmps146
  go_upto_region 1 with (fail)
  go_quiet ((go_at_call 64; exact Calls.quiet_of_same (hin.out _)))
  go_wp2;go_ret;exact hend.out _ hr.out _ (below_drewN HB.out nq) Hx.out (grownBy_drewN (World.grownBy_alloc _ _ _) nq)
theorem held147 (w0 w:World) (a:Option Addr) (n c:Nat) (g:List Ty) (t:Ty) (bx:Nat) (pa:Option Addr) (pl pc:Nat) (mv ov:Value) (h0:bx=w0.heap.size) (hB:Below bx w0 w)
  (hg:Graph w0 (.slice a n c) g) (hp:Parts w0 (.slice pa pl pc) t.parts) (hx:Box w bx t (.slice pa pl pc) mv ov) :
  Calls Tryz.prog 147 #[.agg #[.slice a n c],.pointer (some ⟨bx,0,none⟩)] w (RulePost w0 w bx (heldB g t) (clearParts t) (.slice none 0 0) mv ov):=by
 have hpb:=(SlW.bound hp).2;obtain rfl:=SlW.len hp;have hlt:=hx.lt;have hbr:=dh (branded171 w0 (w.alloc (.cells #[.slice a n c] 118)) a n c g t bx pa _ pc mv ov h0 (hB.alloc (Nat.le_of_lt hlt) _) hg hp (hx.ext (Ext.alloc _ _)));have hend:=dh (show ∀ r,r=heldB g t->∀ W,Below bx w0 W->Box W bx (clearBrand t) (.slice pa t.parts.length pc) mv ov->w.grownBy W (some bx)->RulePost w0 w bx (heldB g t) (clearParts t) (.slice none 0 0) mv ov (.returned (.bool r)) (W.setCell ⟨bx,7,none⟩ (.slice none 0 0)) from
  fun r hr W h1 h2 h3=>⟨by rw [hr],Below.setCell h1 (Nat.le_refl _) _,h2.set (t':=clearParts t) rfl,grownBy_set h3 _ _⟩)
 have hp0:=fun W (hB:Below bx w0 W)=>Parts.mono (w':=W) (by rw [h0] at hB; exact hB) hp;clear hB hx hg;subst h0;cases hb:brandedB g t
 ·have hr:=dh (show false=heldB g t by unfold heldB; rw [hb]; rfl)
  go_enter Tryz.func147,Tryz.ntmps147
  go_wp2_with fail;refine hbr.out.mono ?_;rintro e w1 ⟨rfl,hB1,hx1,hG1⟩;have HG1:=dh (grownBy_trans (World.grownBy_alloc _ _ _) hG1); clear hG1;rw [hb];have c7:=hx1.cell (j:=7) rfl;have f7:=hx1.free 7;have HB1:=dh hB1; clear hB1;have Hx1:=dh hx1; clear hx1;go_wp2_with fail;go_ret;exact hend.out _ hr.out _ HB1.out Hx1.out HG1.out
 ·go_enter Tryz.func147,Tryz.ntmps147
  go_wp2_with fail;refine hbr.out.mono ?_;rintro e w1 ⟨rfl,hB1,hx1,hG1⟩;have HG1:=dh (grownBy_trans (World.grownBy_alloc _ _ _) hG1); clear hG1;rw [hb];have c7:=hx1.cell (j:=7) rfl;have f7:=hx1.free 7;have hp1:=hp0 w1 hB1;have HB1:=dh hB1; clear hB1;have Hx1:=dh hx1; clear hx1;by_cases h1:t.parts.length=1
  ·have hr:=dh (show (nth t.parts 0).name.toList.isEmpty=heldB g t by
    unfold heldB;rw [hb,empty_iff]
    match t.parts,h1 with
    | [p],_=>rfl)
   obtain ⟨b,off,rfl,hlt2,hc0,_⟩:=Parts.at hp1 (show 0<t.parts.length by omega);simp only [Nat.zero_mul,Nat.add_zero] at hc0;have h1b:((t.parts.length:Int)==1)=true:=by rw [beq_iff_eq]; omega
   have h1c:0<t.parts.length:=by omega
   clear h1 hp0;go_wp2_with fail;go_ret;exact hend.out _ hr.out _ HB1.out Hx1.out HG1.out
  ·have hr:=dh (show false=heldB g t by
    unfold heldB;rw [hb]
    match t.parts,h1 with
    | [],_=>rfl
    | [_],h=>exact absurd rfl h
    | _ :: _ :: _,_=>rfl)
   have h1b:((t.parts.length:Int)==1)=false:=by rw [beq_eq_false_iff_ne]; omega
   clear h1 hp0;go_wp2_with fail;go_ret;exact hend.out _ hr.out _ HB1.out Hx1.out HG1.out
theorem recorded148 (w0 w:World) (a:Option Addr) (n c:Nat) (g:List Ty) (t:Ty) (bx:Nat) (pa:Option Addr) (pl pc:Nat) (mv ov:Value) (h0:bx=w0.heap.size) (hB:Below bx w0 w)
  (hg:Graph w0 (.slice a n c) g) (hp:Parts w0 (.slice pa pl pc) t.parts) (hx:Box w bx t (.slice pa pl pc) mv ov) :
  Calls Tryz.prog 148 #[.agg #[.slice a n c],.pointer (some ⟨bx,0,none⟩)] w (RulePost w0 w bx (recordedB g t) (clearParts t) (.slice none 0 0) mv ov):=by
 have hpb:=(SlW.bound hp).2;obtain rfl:=SlW.len hp;have hlt:=hx.lt;have hbr:=dh (branded171 w0 (w.alloc (.cells #[.slice a n c] 118)) a n c g t bx pa _ pc mv ov h0 (hB.alloc (Nat.le_of_lt hlt) _) hg hp (hx.ext (Ext.alloc _ _)));have hend:=dh (show ∀ r,r=recordedB g t->∀ W,Below bx w0 W->Box W bx (clearBrand t) (.slice pa t.parts.length pc) mv ov->w.grownBy W (some bx)->RulePost w0 w bx (recordedB g t) (clearParts t) (.slice none 0 0) mv ov (.returned (.bool r)) (W.setCell ⟨bx,7,none⟩ (.slice none 0 0)) from
  fun r hr W h1 h2 h3=>⟨by rw [hr],Below.setCell h1 (Nat.le_refl _) _,h2.set (t':=clearParts t) rfl,grownBy_set h3 _ _⟩)
 have hp0:=fun W (hB:Below bx w0 W)=>Parts.mono (w':=W) (by rw [h0] at hB; exact hB) hp;clear hB hx hg;have h0':=Nat.le_of_eq h0;cases hb:brandedB g t
 ·have hr:=dh (show false=recordedB g t by unfold recordedB; rw [hb]; rfl);clear h0
  go_enter Tryz.func148,Tryz.ntmps148
  go_wp2_with fail;refine hbr.out.mono ?_;rintro e w1 ⟨rfl,hB1,hx1,hG1⟩;have HG1:=dh (grownBy_trans (World.grownBy_alloc _ _ _) hG1); clear hG1;rw [hb];have c7:=hx1.cell (j:=7) rfl;have f7:=hx1.free 7;have HB1:=dh hB1; clear hB1;have Hx1:=dh hx1; clear hx1;go_wp2_with fail;go_ret;exact hend.out _ hr.out _ HB1.out Hx1.out HG1.out
 ·by_cases h1:0<t.parts.length
  ·have hr:=dh (show differentB (t.parts.map (·.name)) 8=recordedB g t by unfold recordedB; rw [hb,decide_eq_true h1]; rfl);clear h0
   go_enter Tryz.func148,Tryz.ntmps148
   go_wp2_with fail;refine hbr.out.mono ?_;rintro e w1 ⟨rfl,hB1,hx1,hG1⟩;have HG1:=dh (grownBy_trans (World.grownBy_alloc _ _ _) hG1); clear hG1;rw [hb];have c7:=hx1.cell (j:=7) rfl;have hp1:=hp0 w1 hB1;have HB1:=dh hB1; clear hB1;have hl1:=hx1.lt;have Hx1:=dh hx1; clear hx1;clear hp0;go_wp2_with fail;refine (names173 174 enters174 _ _ _ _ _ hp1 name174).mono ?_;rintro e w2 ⟨va,vc,rfl,hs1,hE⟩;have HB2:=dh (HB1.out.trans (Below.mono hE (Nat.le_of_lt hl1)));have Hx2:=dh (Hx1.out.ext hE);have hl2:=Hx2.out.lt;have HG2:=dh (grownBy_ext HG1.out hE);clear hE;go_wp2_with fail;refine (different172 _ _ _ _ 8 _ hs1).mono ?_;rintro e w3 ⟨rfl,hE⟩;have HB3:=dh (HB2.out.trans (Below.mono hE (Nat.le_of_lt hl2)));have Hx3:=dh (Hx2.out.ext hE);have c7:=Hx3.out.cell (j:=7) rfl;have f7:=Hx3.out.free 7;have HG3:=dh (grownBy_ext HG2.out hE);clear hE;go_wp2_with fail;go_ret;exact hend.out _ hr.out _ HB3.out Hx3.out HG3.out
  ·have hr:=dh (show false=recordedB g t by unfold recordedB; rw [hb,decide_eq_false h1]; rfl);clear h0
   go_enter Tryz.func148,Tryz.ntmps148
   go_wp2_with fail;refine hbr.out.mono ?_;rintro e w1 ⟨rfl,hB1,hx1,hG1⟩;have HG1:=dh (grownBy_trans (World.grownBy_alloc _ _ _) hG1); clear hG1;rw [hb];have c7:=hx1.cell (j:=7) rfl;have f7:=hx1.free 7;have HB1:=dh hB1; clear hB1;have Hx1:=dh hx1; clear hx1;go_wp2_with fail;go_ret;exact hend.out _ hr.out _ HB1.out Hx1.out HG1.out
theorem opq150 (w0 w:World) (a:Option Addr) (n c:Nat) (g:List Ty) (t:Ty) (bx:Nat) (pv mv ov:Value) (h0:bx=w0.heap.size) (hB:Below bx w0 w)
  (hg:Graph w0 (.slice a n c) g) (ho:t.opq.size<=140737488351232) (hx:Box w bx t pv mv ov) :
  Calls Tryz.prog 150 #[.agg #[.slice a n c],.pointer (some ⟨bx,0,none⟩)] w (RulePost w0 w bx (opqB g t) (clearOpq t) pv mv ov):=by
 have hlt:=hx.lt;obtain rfl:=SlW.len hg;have hg1:=Graph.mono (w':=w) (by rw [h0] at hB; exact hB) hg;have hend:=dh (show ∀ r,r=opqB g t->∀ W,Ext w W->RulePost w0 w bx (opqB g t) (clearOpq t) pv mv ov (.returned (.bool r)) ((W.setCell ⟨bx,5,none⟩ (.string ⟨#[]⟩)).setCell ⟨bx,6,none⟩ (.int .i64 0)) from
  fun r hr W hE=>⟨by rw [hr],Below.setCell (Below.setCell (hB.trans (Below.mono hE (Nat.le_of_lt hlt))) (Nat.le_refl _) _) (Nat.le_refl _) _,((hx.ext hE).set (t':={ t with opq:=⟨#[]⟩ }) rfl).set rfl,grownBy_set (grownBy_set (grownBy_ext (grownBy_refl _ _) hE) _ _) _ _⟩)
 have c5:=hx.cell (j:=5) rfl;have c6:=hx.cell (j:=6) rfl;have c5x:=(Ext.alloc w (.cells #[.slice a g.length c] 118)).cell c5;have c6x:=(Ext.alloc w (.cells #[.slice a g.length c] 118)).cell c6;have f5:=hx.free 5;have f6:=hx.free 6;clear hB hx hg h0;cases hs:isSymbolB t.opq
 ·have hr:=dh (show false=opqB g t by unfold opqB; rw [hs]; rfl)
  go_enter Tryz.func150,Tryz.ntmps150
  go_upto_region 1 with (fail);go_cut [5] (fun v wx=>v=.bool false/\Hid (Ext w wx))
  case first =>
   refine Zr 99 ?_;change wpE _ _ _ _ _ _ _ _ (World.drew _);refine Zg 0 ?_;refine Zg 1 ?_;refine Zg 2 ?_;refine Zc 3 c5x ?_;refine Zo 4 fun K hK=>?_;go_simp;refine (isSymbol86 _ ho _).mono ?_;rintro e w1 ⟨rfl,hE⟩;rw [hs];have HE:=dh hE;refine hK _ _ (hE) ?_; clear hK K;clear hE;refine Zg 5 ?_;refine Zs 6 ?_;refine Zs 7 ?_;refine Zs 8 ?_;refine Zs 9 ?_;refine Zs 10 ?_;refine Zs 11 ?_;refine Zs 12 ?_;refine Zg 13 ?_;refine Zg 14 ?_;refine Zd ?_;go_wp2_with fail;go_meet;exact ⟨rfl,((Ext.alloc _ _).trans (Ext.drew _)).trans HE.out⟩
  case rest =>
   obtain ⟨rfl,hE⟩:=hcut;have d5:=hE.out.cell c5;have d6:=hE.out.cell c6;have e5:=(Below.frozen hE.out (p:=⟨bx,5,none⟩) hlt).trans f5;have e6:=(Below.frozen hE.out (p:=⟨bx,6,none⟩) hlt).trans f6;clear c5 c6 c5x c6x f5 f6 hs;go_wp2_with fail;go_ret;exact hend.out _ hr.out _ hE.out
 ·have hr:=dh (show overB g t.super [12,6,7,8,13,4]=opqB g t by unfold opqB; rw [hs]; rfl)
  go_enter Tryz.func150,Tryz.ntmps150
  go_upto_region 1 with (fail);go_cut [5] (fun v wx=>v=.bool (overB g t.super [12,6,7,8,13,4])/\Hid (Ext w wx))
  case first =>
   refine Zr 99 ?_;change wpE _ _ _ _ _ _ _ _ (World.drew _);refine Zg 0 ?_;refine Zg 1 ?_;refine Zg 2 ?_;refine Zc 3 c5x ?_;refine Zo 4 fun K hK=>?_;go_simp;refine (isSymbol86 _ ho _).mono ?_;rintro e w1 ⟨rfl,hE⟩;rw [hs];have hg2:=Graph.mono hE (Graph.mono ((Ext.alloc _ _).trans (Ext.drew _)) hg1);have hbx:=hE.cell (cell_new1 w (.slice a g.length c) 118);have c6y:=hE.cell c6x;have HE:=dh (((Ext.alloc _ _).trans (Ext.drew _)).trans hE);refine hK _ _ (hE) ?_; clear hK K;clear hE;refine Zg 5 ?_;refine Zc 6 hbx ?_;refine Zg 7 ?_;refine Zg 8 ?_;refine Zg 9 ?_;refine Zc 10 c6y ?_;refine Zo 11 fun K hK=>?_;go_simp;refine hK _ _ (Ext.alloc _ _) ?_; clear hK K;refine Zo 12 fun K hK=>?_;go_simp;refine (over177 a _ c g _ _ _ [12,6,7,8,13,4] t.super _ (Graph.mono (Ext.alloc _ _) hg2) (u8s_new _ [12,6,7,8,13,4] (by decide))).mono ?_;rintro e w7 ⟨rfl,hE⟩;have HE7:=dh (HE.out.trans ((Ext.alloc _ _).trans hE));refine hK _ _ (hE) ?_; clear hK K;clear hE;refine Zg 13 ?_;refine Zg 14 ?_;refine Zd ?_;go_wp2_with fail;go_meet;exact ⟨rfl,HE7⟩
  case rest =>
   obtain ⟨rfl,hE⟩:=hcut;have d5:=hE.out.cell c5;have d6:=hE.out.cell c6;have e5:=(Below.frozen hE.out (p:=⟨bx,5,none⟩) hlt).trans f5;have e6:=(Below.frozen hE.out (p:=⟨bx,6,none⟩) hlt).trans f6;clear c5 c6 c5x c6x f5 f6 hs;go_wp2_with fail;go_ret;exact hend.out _ hr.out _ hE.out
end
end Go.Proofs.YtjffkeoajkhbmaaGreat
