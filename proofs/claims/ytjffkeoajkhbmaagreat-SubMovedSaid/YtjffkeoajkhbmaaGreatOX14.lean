/- A region that draws its order, within a fence: B2's walk with every machine on the way fenced. Within a fence: an operation that reads is taken now, where all that may come up ahead of it only looks. Rows that are turned, element by element; the bounds that a well-formed type has. -/
import Derived.OrdersIn
import Derived.OwnWalkIn
import Derived.Stop.Looks
import Derived.Test.YtjffkeoajkhbmaaGreatOX4
import Derived.Test.YtjffkeoajkhbmaaGreatOX10
import Derived.Test.YtjffkeoajkhbmaaGreatOX11
namespace Go.Proofs.YtjffkeoajkhbmaaGreat
set_option linter.unusedSimpArgs false
set_option linter.unusedVariables false
set_option maxRecDepth 100000
set_option maxHeartbeats 8000000
section
open Go.RowKit Go.Proofs
section
variable {F:Fence} {n:Nat} {P:Program} {ops:Array Oper} {Q:Exit->Act->World->Prop} {md:Region.Mode} {S:World->Prop}
def undeferred (ops:Array Oper):Bool:=ops.all fun o=>match o.op with | .defer _=>false | _=>true
theorem undeferred_spec (h:undeferred ops=true) {j:Nat} {o:Oper} (hj:ops[j]? = some o):∀ c,o.op≠.defer c:=by
 intro c hc;unfold undeferred at h;rw [Array.all_eq_true] at h;have hlt:=(Array.getElem?_eq_some_iff.1 hj);have:=h j hlt.1;rw [hlt.2,hc] at this;cases this
def YieldsIfIn (P:Program) (ops:Array Oper) (S:World->Prop) (o:Oper) (v:Value) (a:Act):Prop:=YieldsIf P ops S o v a/\∀ w,S w->o.about P w a.eval=none
theorem YieldsIfIn.wpOpIn {i:Nat} {o:Oper} {v:Value} {a:Act} (hnd:undeferred ops=true) (hi:ops[i]? = some o) (hy:YieldsIfIn P ops S o v a) {K:Act->World->Prop} {w:World} (hS:S w) (h:K (a.put o.dst v) w):Go.wpOpIn F n P ops Q i K a w:=by
 unfold Go.wpOpIn;simp only [hi];have hab:∀ f,o.about P w a.eval=some f->F.fn f:=fun f hf=>by rw [hy.2 w hS] at hf; cases hf
 rcases hy.1 with ⟨hw,hv⟩ | ⟨hw,rfl⟩
 ·simp only [hw,if_true,Oper.wpIn,Oper.semAt_plain F _ _ (undeferred_spec hnd hi),hv w hS,Oper.uponIn]; exact ⟨hab,h⟩
 ·simp only [hw,Bool.false_eq_true,if_false]; exact ⟨hab,h⟩
theorem YieldsIfIn.of_same {o:Oper} {v:Value} {a a':Act} (hy:YieldsIfIn P ops S o v a) (he:execOp a'.eval o=execOp a.eval o)
  (hw:Region.wanted o (yielded ops a'.tmps)=Region.wanted o (yielded ops a.tmps)) (hb:∀ w,o.about P w a'.eval=o.about P w a.eval):YieldsIfIn P ops S o v a' :=
 ⟨hy.1.of_same he hw,fun w hS=>by rw [hb w]; exact hy.2 w hS⟩
theorem wpOpIn_putIf {j:Nat} {oi oj:Oper} {v:Value} (hnd:undeferred ops=true) (hj:ops[j]? = some oj) (hap:oi.apart ops oj=true)
  (hsi:∀ cs b,oi.op≠.select cs b) (hsj:∀ cs b,oj.op≠.select cs b)
  (hQ:∀ c a w,Q (.panic c) (a.put oi.dst v) w->Q (.panic c) a w) {K:Act->World->Prop} {a:Act} {w:World}
  (hy:YieldsIfIn P ops S oi v a) (h:wpOpIn F n P ops Q j K (a.put oi.dst v) w) :
  wpOpIn F n P ops Q j (fun a' w'=>YieldsIfIn P ops S oi v a'/\K (a'.put oi.dst v) w') a w:=by
 obtain ⟨h1,h2,h3⟩:=Oper.apart_spec hap;have keep:∀ (a:Act),YieldsIfIn P ops S oi v a->∀ u,YieldsIfIn P ops S oi v (a.put oj.dst u):=fun a hy u =>
  hy.of_same (execOp_put oi hsi a oj.dst u h3) (wanted_put oi a oj.dst u h3) (fun w=>about_put oi w a oj.dst u h3)
 have keepD:∀ d,YieldsIfIn P ops S oi v { a with defers:=d :: a.defers }:=fun d=>hy.of_same rfl rfl (fun _=>rfl);have hnj:=undeferred_spec hnd hj;unfold wpOpIn at *;simp only [hj] at *;rw [wanted_put oj a oi.dst v h1,about_put oj w a oi.dst v h1] at h;split
 ·rename_i hw
  simp only [hw,if_true] at h;unfold Oper.wpIn at *;rw [about_put oj w a oi.dst v h1] at h;refine ⟨h.1,?_⟩;have h:=h.2;rw [Oper.semAt_plain F _ _ hnj,execOp_put oj hsj a oi.dst v h1] at h;rw [Oper.semAt_plain F _ _ hnj];generalize (execOp a.eval oj).run P w=r at *;cases r with
  | ok x w' =>
   cases x <;> simp only [Oper.uponIn] at h ⊢
   case value u=>exact ⟨keep a hy u,by rw [<- Act.put_comm a v u h2]; exact h⟩
   case skip=>exact ⟨keep a hy _,by rw [<- Act.put_comm a v undef h2]; exact h⟩
   case defer d =>
    refine ⟨keep _ (keepD d) _,?_⟩;rw [<- Act.put_comm _ v undef h2,<- Act.put_defers];exact h
   case enter f args =>
    refine ⟨h.1,CallsIn.mono h.2 fun e w'' he=>?_⟩;cases e with
    | returned u=>exact ⟨keep a hy u,by rw [<- Act.put_comm a v u h2]; exact he⟩
    | panicked c=>exact hQ _ _ _ he
    | outgrown=>exact he
   case row row args=>exact ⟨h.1,RowsIn.mono h.2 fun u w'' he=>⟨keep a hy u,by rw [<- Act.put_comm a v u h2]; exact he⟩⟩
   case round l f tmps assign body =>
    refine ⟨h.1,RoundIn.mono h.2 fun e w'' he=>?_⟩;cases e with
    | returned u=>exact ⟨keep a hy u,by rw [<- Act.put_comm a v u h2]; exact he⟩
    | panicked c=>exact hQ _ _ _ he
    | outgrown=>exact he
  | halt x w' =>
   cases x <;> simp only [Oper.uponIn] at h ⊢
   case panic u=>exact hQ _ _ _ h
 ·rename_i hw
  simp only [hw] at h;exact ⟨h.1,keep a hy _,by rw [<- Act.put_comm a v undef h2]; exact h.2⟩
def wpI (F:Fence) (n:Nat) (P:Program) (md:Region.Mode) (ops:Array Oper) (fin:Nat) (Q:Exit->Act->World->Prop) (S:World->Prop):Nat->Array Bool->Act->World->Prop
 | 0,listed,a,w=>Region.ready md ops listed=[]/\Q .normal a w
 | fuel+1,listed,a,w =>
  (Region.ready md ops listed=[]->Q .normal a w) /\
  ∀ i∈Region.ready md ops listed,wpOpIn F n P ops Q i (fun a' w'=>(i≠fin->S w')/\wpI F n P md ops fin Q S fuel (listed.setIfInBounds i true) a' w') a w
variable {fin:Nat}
theorem wpAnyIn_of_I:∀ (fuel:Nat) (listed:Array Bool) (a:Act) (w:World),wpI F n P md ops fin Q S fuel listed a w->wpAnyIn F n P md ops Q fuel listed a w
 | 0,_,_,_,h=>h
 | fuel+1,_,_,_,h=>⟨h.1,fun i hi=>wpOpIn_mono (fun a' w' h'=>wpAnyIn_of_I fuel _ a' w' h'.2) (h.2 i hi)⟩
theorem wp_region_I {id:Nat} {a:Act} {w:World} (fin:Nat) (S:World->Prop) (hm:P.follows .mixedOrders=true)
  (h:wpI F n P .any ops fin Q S ops.size (Array.replicate ops.size false) a w.drew):(Code.region id ops true).wpIn F n P Q a w :=
 wpIn_region_any hm (wpAnyIn_of_I _ _ _ _ h)
theorem wpI_first (hnd:undeferred ops=true) (hfin:finOk md ops fin=true) {i:Nat} {oi:Oper} {v:Value} (hi:ops[i]? = some oi) (hsel:∀ (j:Nat) (o:Oper) cs b,ops[j]? = some o->o.op≠.select cs b)
  (hQ:∀ c a w,Q (.panic c) (a.put oi.dst v) w->Q (.panic c) a w) :
  ∀ (fuel:Nat) (listed:Array Bool) (a:Act) (w:World),
   (∀ j oj,ops[j]? = some oj->j≠i->listed.getD j true=false->(∀ e∈oj.after,Region.binds md e=true->e.on≠i)->oi.apart ops oj=true) ->
   i∈Region.ready md ops listed->YieldsIfIn P ops S oi v a->S w ->
   wpI F n P md ops fin Q S fuel (listed.setIfInBounds i true) (a.put oi.dst v) w->wpI F n P md ops fin Q S (fuel+1) listed a w:=by
 intro fuel
 induction fuel with
 | zero =>
  intro listed a w _ hr hy hS H;refine ⟨fun h=>(by rw [h] at hr; cases hr),fun j hj=>?_⟩;by_cases hji:j=i
  ·subst hji; exact hy.wpOpIn hnd hi hS ⟨fun _=>hS,H⟩
  ·have:=ready_mono hj hji;rw [H.1] at this;cases this
 | succ fuel ih =>
  intro listed a w hfree hr hy hS H;refine ⟨fun h=>(by rw [h] at hr; cases hr),fun j hj=>?_⟩;by_cases hji:j=i
  ·subst hji; exact hy.wpOpIn hnd hi hS ⟨fun _=>hS,H⟩
  ·have h1:=H.2 j (ready_mono hj hji);obtain ⟨hjun,oj,hoj,hall⟩:=mem_ready.1 hj;have hnot:∀ e∈oj.after,Region.binds md e=true->e.on≠i:=fun e he hb heq=>by
    have h1:=hall e he hb;have h0:=(mem_ready.1 hr).1;rw [heq] at h1;rcases Nat.lt_or_ge i listed.size with h' | h'
    ·simp [h'] at h0 h1; rw [h0] at h1; cases h1
    ·simp [Array.getElem?_eq_none h'] at h1
   have h2:=wpOpIn_putIf hnd hoj (hfree j oj hoj hji hjun hnot) (fun cs b=>hsel i oi cs b hi) (fun cs b=>hsel j oj cs b hoj) hQ hy h1;have hfree':∀ k ok,ops[k]? = some ok->k≠i->(listed.setIfInBounds j true).getD k true=false ->
     (∀ e∈ok.after,Region.binds md e=true->e.on≠i)->oi.apart ops ok=true:=fun k ok hk hki hun hno=>by
    refine hfree k ok hk hki ?_ hno;by_cases hjk:j=k
    ·subst hjk; exact hjun
    ·rw [getD_set_ne true hjk] at hun; exact hun
   have hjf:j≠fin:=fun e=>by
    subst e;unfold finOk at hfin;rw [hoj] at hfin;simp only [List.all_eq_true,List.mem_range,Bool.or_eq_true,beq_iff_eq] at hfin;have hil:i<ops.size:=(Array.getElem?_eq_some_iff.1 hi).1;rcases hfin i hil with h | h
    ·exact hji h.symm
    ·simp only [Array.any_eq_true,Bool.and_eq_true,beq_iff_eq] at h;obtain ⟨q,hq,hb,he⟩:=h;exact hnot _ (Array.getElem_mem hq) hb he
   refine wpOpIn_mono (fun a' w' h3=>⟨h3.2.1,ih (listed.setIfInBounds j true) a' w' hfree' (ready_mono hr (Ne.symm hji)) h3.1 (h3.2.1 hjf) ?_⟩) h2;rw [Array.setIfInBounds_comm _ _ hji];exact h3.2.2
theorem wpI_take {i:Nat} {oi:Oper} {v:Value} {fuel:Nat} {listed:Array Bool} {a:Act} {w:World} (hi:ops[i]? = some oi) (hnd:undeferred ops=true) (hfin:finOk md ops fin=true)
  (hs:Region.noSelect ops=true) (hf:Region.free md ops listed i=true) (hr:(Region.ready md ops listed).contains i=true)
  (hQ:∀ c a w,Q (.panic c) (a.put oi.dst v) w->Q (.panic c) a w) (hS:S w) (hy:YieldsIf P ops S oi v a) (hab:∀ w,S w->oi.about P w a.eval=none)
  (h:wpI F n P md ops fin Q S fuel (listed.setIfInBounds i true) (a.put oi.dst v) w):wpI F n P md ops fin Q S (fuel+1) listed a w :=
 wpI_first hnd hfin hi (Region.noSelect_spec hs) hQ fuel listed a w (Region.free_spec hi hf) (by simpa using hr) ⟨hy,hab⟩ hS h
theorem wpI_only {i:Nat} {oi:Oper} {fuel:Nat} {listed:Array Bool} {a:Act} {w:World} (hi:ops[i]? = some oi) (hr:Region.ready md ops listed=[i])
  (h:∀ K:Act->World->Prop,(∀ a' w',(i≠fin->S w')->wpI F n P md ops fin Q S fuel (listed.setIfInBounds i true) a' w'->K a' w') ->
   if Region.wanted oi (yielded ops a.tmps) then oi.wpIn F n P a w K Q else (∀ f,oi.about P w a.eval=some f->F.fn f)/\K (a.put oi.dst undef) w):wpI F n P md ops fin Q S (fuel+1) listed a w:=by
 refine ⟨fun h0=>absurd (hr ▸ h0) (by simp),fun j hj=>?_⟩;rw [hr] at hj;obtain rfl:=List.mem_singleton.1 hj;have:=h (fun a' w'=>(j≠fin->S w')/\wpI F n P md ops fin Q S fuel (listed.setIfInBounds j true) a' w') (fun a' w' hE hX=>⟨hE,hX⟩);unfold wpOpIn;simp only [hi];split
 ·rename_i hw; rw [if_pos hw] at this; exact this
 ·rename_i hw; rw [if_neg hw] at this; exact this
theorem wpI_done {fuel:Nat} {listed:Array Bool} {a:Act} {w:World} (hr:Region.ready md ops listed=[]) (h:Q .normal a w):wpI F n P md ops fin Q S fuel listed a w:=by
 cases fuel with
 | zero=>exact ⟨hr,h⟩
 | succ fuel=>exact ⟨fun _=>h,by rw [hr]; simp⟩
end
end
section
open Go.RowKit Go.Proofs
theorem loadVar_looks (t:TypeId) (a:Addr):(loadVar t a).Looks:=by
 unfold loadVar isAgg;refine Sem.Looks.bind ((underlying_looks t).bind fun d=>?_) fun b=>?_
 ·split <;> trivial
 ·split
  ·exact (sizeOf_looks t).bind fun n=>(loadCells_looks a n).bind fun _=>trivial
  ·exact load_looks _ _
theorem sureAddr_looks (v:Value):(Instr.sureAddr v).Looks:=by
 unfold Instr.sureAddr;split <;> trivial
theorem loadAt_looks (t:TypeId) (v:Value):(Instr.loadAt t v).Looks:=(sureAddr_looks v).bind fun a=>loadVar_looks t a
def looksOp (o:Oper):Bool:=match o.op with | .move _ | .load _ _ | .fieldAddr _ _ _=>true | .nilCheck _=>true | _=>false
theorem goPanic_looks {α:Type} (v:Value):(goPanic v:Sem α).Looks:=by
 unfold goPanic
 trivial
theorem nilDeref_looks {α:Type}:(runtimePanic .nilDeref:Sem α).Looks:=by
 unfold runtimePanic;exact program_looks.bind fun p=>goPanic_looks _
theorem part_looks (t:TypeId) (cs:Array Value) (off:Nat):(part t cs off).Looks:=by
 unfold part isAgg;refine Sem.Looks.bind ((underlying_looks t).bind fun d=>?_) fun b=>?_
 ·split <;> trivial
 ·split
  ·exact (sizeOf_looks t).bind fun n=>trivial
  ·split <;> trivial
theorem followBlind_looks:∀ (l:List FieldStep) (t:TypeId) (x:Option Value),(followBlind l t x).Looks
 | [],t,x=>trivial
 | s :: rest,t,x=>by
  unfold followBlind;refine (underlying_looks _).bind fun d=>?_;split
  ·split
   ·split
    ·trivial
    ·exact followBlind_looks rest _ _
    ·trivial
    ·trivial
    ·exact (part_looks _ _ _).bind fun _=>followBlind_looks rest _ _
    ·trivial
    ·exact followBlind_looks rest _ _
   ·trivial
  ·trivial
theorem nilAhead_looks:∀ (fuel:Nat) (t:TypeId) (v:Value) (name:String),(nilAhead fuel t v name).Looks
 | 0,_,_,_=>trivial
 | fuel+1,t,v,name=>by
  unfold nilAhead;refine (typeInfo_looks _).bind fun i=>?_;split
  ·refine (followBlind_looks _ _ _).bind fun r=>?_;split
   ·trivial
   ·split
    ·exact nilAhead_looks fuel _ _ _
    ·trivial
    ·trivial
    ·trivial
    ·trivial
    ·refine (underlying_looks _).bind fun d=>?_;split <;> trivial
  ·trivial
theorem shape_looks0 (b:Nat):(shape b).Looks:=by
 unfold shape;exact fun _=>trivial
theorem run_program_ok (P:Program) (w:World):program.run P w=.ok P w:=rfl
theorem viewAt_looks (b:Nat):(viewAt b).Looks:=by
 unfold viewAt;refine (shape_looks0 _).bind fun s=>?_;split
 ·trivial
 ·exact Sem.Looks.bind (fun _=>trivial) fun o=>(by split <;> trivial)
theorem noView_looks (a:Addr):(noView a).Looks:=by
 unfold noView;refine (viewAt_looks _).bind fun v=>?_;split <;> trivial
theorem byteOf_looks (a:Addr):(byteOf a).Looks:=by
 unfold byteOf;split
 ·trivial
 ·refine program_looks.bind fun p=>(noView_looks _).bind fun _=>(shape_looks0 _).bind fun s=>?_;split
  ·dsimp only;split
   ·trivial
   ·split <;> trivial
  ·trivial
theorem fieldAt_looks (t:TypeId) (v:Value) (f:Nat):(Instr.fieldAt t v f).Looks:=by
 unfold Instr.fieldAt;refine (underlying_looks _).bind fun d=>?_;split
 ·split
  ·refine (sureAddr_looks v).bind fun a=>?_;unfold fieldPlace;refine Sem.Looks.bind ((sizeOf_looks _).bind fun n=>?_) fun _=>trivial;split
   ·unfold partAt;exact (byteOf_looks _).bind fun _=>(byteOf_looks _).bind fun _=>trivial
   ·trivial
  ·trivial
 ·trivial
def LooksV (x:Sem Next):Prop:=∀ (P:Program) (w w':World) (n:Next),x.run P w=.ok n w'->w'=w/\∃ v,n=.value v
theorem looksV_bind {x:Sem Value} (h:x.Looks):LooksV (do pure (.value (<- x))):=by
 intro P w w' n hr;simp only [Sem.run_bind] at hr;cases hx:x.run P w with
 | ok v w1 =>
  rw [hx] at hr;simp only [Result.andThen,Sem.run_pure] at hr;cases hr;exact ⟨h.ok hx,v,rfl⟩
 | halt c w1=>rw [hx] at hr; simp [Result.andThen] at hr
theorem looksV_pure (v:Value):LooksV (pure (.value v)):=by
 intro P w w' n hr;simp only [Sem.run_pure] at hr;cases hr;exact ⟨rfl,v,rfl⟩
theorem looksOp_spec {o:Oper} (h:looksOp o=true) (ρ:Operand->Value):LooksV (execOp ρ o):=by
 unfold looksOp at h;unfold execOp;split at h
 ·rename_i x hx; rw [hx]; exact looksV_pure _
 ·rename_i t x hx; rw [hx]; exact looksV_bind (loadAt_looks _ _)
 ·rename_i t x f hx; rw [hx]; exact looksV_bind (fieldAt_looks _ _ _)
 ·rename_i x hx
  rw [hx];dsimp only;split
  ·intro P w w' n hr;have:=(nilDeref_looks (α:=Next)).ok hr;unfold runtimePanic goPanic at hr;simp [Sem.run_bind,Result.andThen] at hr
  ·intro P w w' n hr;unfold runtimePanic goPanic at hr;simp [Sem.run_bind,Result.andThen] at hr
  ·intro P w w' n hr;unfold runtimePanic goPanic at hr;simp [Sem.run_bind,Result.andThen] at hr
  ·rename_i name first captured _
   split
   ·intro P w w' n hr;unfold runtimePanic goPanic at hr;simp [Sem.run_bind,Result.andThen] at hr
   ·intro P w w' n hr;simp only [Sem.run_bind,run_program_ok,Result.andThen] at hr;cases hn:(nilAhead (P.types.size+Made.depth) ‹TypeId› ‹Value› name).run P w with
    | ok b w1 =>
     rw [hn] at hr;have hw:=(nilAhead_looks _ _ _ _).ok hn;simp only at hr;split at hr
     ·simp [Result.andThen] at hr
     ·simp only [Sem.run_pure] at hr;cases hr;exact ⟨hw,_,rfl⟩
    | halt c w1=>rw [hn] at hr; simp at hr
   ·exact looksV_pure _
  ·exact looksV_pure _
 ·cases h
section
variable {F:Fence} {n:Nat} {P:Program} {ops:Array Oper} {Q:Exit->Act->World->Prop} {md:Region.Mode}
theorem wpOpIn_looks {j:Nat} {oj:Oper} (hnd:undeferred ops=true) (hj:ops[j]? = some oj) (hl:looksOp oj=true) {K:Act->World->Prop} {a:Act} {w:World} (h:wpOpIn F n P ops Q j K a w) :
  wpOpIn F n P ops Q j (fun a' w'=>w'=w/\K a' w') a w:=by
 have hnj:=undeferred_spec hnd hj;unfold wpOpIn at *;simp only [hj] at *;split
 ·rename_i hw
  simp only [hw,if_true] at h;unfold Oper.wpIn at *;refine ⟨h.1,?_⟩;have h:=h.2;rw [Oper.semAt_plain F _ _ hnj] at h ⊢;have hs:=looksOp_spec hl a.eval P w;cases hr:(execOp a.eval oj).run P w with
  | ok x w' =>
   rw [hr] at h;obtain ⟨rfl,v,rfl⟩:=hs w' x hr;simp only [Oper.uponIn] at h ⊢;exact ⟨trivial,h⟩
  | halt x w' =>
   rw [hr] at h;cases x <;> simp only [Oper.uponIn] at h ⊢
   case panic u=>exact h
 ·rename_i hw
  simp only [hw] at h;exact ⟨h.1,trivial,h.2⟩
def peersB (md:Region.Mode) (ops:Array Oper) (i:Nat) (listed C:Array Bool):Bool :=
 (Region.ready md ops C).all (·==i)&&C.size==ops.size&&listed.size==ops.size&&(List.range ops.size).all fun j=>(!listed.getD j false||C.getD j false)&&(!C.getD j false||!(!listed.getD j true)||(match ops[j]? with | some o=>looksOp o | none=>true))
def closeB (md:Region.Mode) (ops:Array Oper) (i:Nat):Nat->Array Bool->Array Bool
 | 0,L=>L
 | f+1,L=>closeB md ops i f ((Region.ready md ops L).foldl (fun L j=>if j=i then L else L.setIfInBounds j true) L)
theorem getD_false_true {L:Array Bool} {j:Nat} (h:j<L.size):L.getD j false=L.getD j true:=by simp [Array.getD,h]
theorem wpAnyIn_look_first {i:Nat} {oi:Oper} {v:Value} {w:World} {C:Array Bool} (hnd:undeferred ops=true) (hi:ops[i]? = some oi) (hsel:∀ (j:Nat) (o:Oper) cs b,ops[j]? = some o->o.op≠.select cs b)
  (hQ:∀ c a w,Q (.panic c) (a.put oi.dst v) w->Q (.panic c) a w) (hC1:∀ j,j∈Region.ready md ops C->j=i) (hC2:C.size=ops.size) :
  ∀ (fuel:Nat) (listed:Array Bool) (a:Act),listed.size=ops.size ->
   (∀ j oj,ops[j]? = some oj->j≠i->listed.getD j true=false->(∀ e∈oj.after,Region.binds md e=true->e.on≠i)->oi.apart ops oj=true) ->
   (∀ j,j<ops.size->listed.getD j false=true->C.getD j false=true)->(∀ j oj,ops[j]? = some oj->C.getD j false=true->listed.getD j true=false->looksOp oj=true) ->
   i∈Region.ready md ops listed->YieldsIfIn P ops (fun u=>u=w) oi v a ->
   wpAnyIn F n P md ops Q fuel (listed.setIfInBounds i true) (a.put oi.dst v) w->wpAnyIn F n P md ops Q (fuel+1) listed a w:=by
 intro fuel
 induction fuel with
 | zero =>
  intro listed a _ _ _ _ hr hy H;refine ⟨fun h=>(by rw [h] at hr; cases hr),fun j hj=>?_⟩;by_cases hji:j=i
  ·subst hji; exact hy.wpOpIn hnd hi rfl H
  ·have:=ready_mono hj hji;rw [H.1] at this;cases this
 | succ fuel ih =>
  intro listed a hls hfree hsub hlk hr hy H;refine ⟨fun h=>(by rw [h] at hr; cases hr),fun j hj=>?_⟩;by_cases hji:j=i
  ·subst hji; exact hy.wpOpIn hnd hi rfl H
  ·have h1:=H.2 j (ready_mono hj hji);obtain ⟨hjun,oj,hoj,hall⟩:=mem_ready.1 hj;have hjs:j<ops.size:=(Array.getElem?_eq_some_iff.1 hoj).1;have hdep:∀ e∈oj.after,Region.binds md e=true->e.on<ops.size->C.getD e.on false=true:=fun e he hb hs=>hsub _ hs (hall e he hb);have hnot:∀ e∈oj.after,Region.binds md e=true->e.on≠i:=fun e he hb heq=>by
    have h1:=hall e he hb;have h0:=(mem_ready.1 hr).1;rw [heq] at h1;rcases Nat.lt_or_ge i listed.size with h' | h'
    ·simp [h'] at h0 h1; rw [h0] at h1; cases h1
    ·simp [Array.getElem?_eq_none h'] at h1
   have hCj:C.getD j false=true:=by
    cases hc:C.getD j false with
    | true=>rfl
    | false =>
     exfalso;refine hji (hC1 j (mem_ready.2 ⟨by rw [<- getD_false_true (by omega)]; exact hc,oj,hoj,fun e he hb=>?_⟩));rcases Nat.lt_or_ge e.on ops.size with hs | hs
     ·exact hdep e he hb hs
     ·have:=hall e he hb;simp [Array.getElem?_eq_none (show listed.size<=e.on by omega)] at this
   have hlook:=hlk j oj hoj hCj hjun;have h2:=wpOpIn_putIf hnd hoj (hfree j oj hoj hji hjun hnot) (fun cs b=>hsel i oi cs b hi) (fun cs b=>hsel j oj cs b hoj) hQ hy h1;have hfree':∀ k ok,ops[k]? = some ok->k≠i->(listed.setIfInBounds j true).getD k true=false ->
     (∀ e∈ok.after,Region.binds md e=true->e.on≠i)->oi.apart ops ok=true:=fun k ok hk hki hun hno=>by
    refine hfree k ok hk hki ?_ hno;by_cases hjk:j=k
    ·subst hjk; exact hjun
    ·rw [getD_set_ne true hjk] at hun; exact hun
   refine wpOpIn_mono (fun a' w' h3=>?_) (wpOpIn_looks hnd hoj hlook h2);obtain ⟨rfl,h3,h4⟩:=h3;refine ih (listed.setIfInBounds j true) a' (by simpa using hls) hfree' (fun k hk hl=>?_) (fun k ok hok hc hl=>?_) (ready_mono hr (Ne.symm hji)) h3 ?_
   ·by_cases hjk:j=k
    ·subst hjk; exact hCj
    ·rw [getD_set_ne false hjk] at hl; exact hsub k hk hl
   ·by_cases hjk:j=k
    ·subst hjk; rw [hoj] at hok; cases hok; exact hlook
    ·rw [getD_set_ne true hjk] at hl; exact hlk k ok hok hc hl
   ·rw [Array.setIfInBounds_comm _ _ hji];exact h4
theorem wpAnyIn_look {i fu:Nat} {oi:Oper} {v:Value} {fuel:Nat} {listed:Array Bool} {a:Act} {w:World} (hi:ops[i]? = some oi) (hnd:undeferred ops=true)
  (hC:peersB md ops i listed (closeB md ops i fu listed)=true)
  (hs:Region.noSelect ops=true) (hf:Region.free md ops listed i=true) (hr:(Region.ready md ops listed).contains i=true)
  (hQ:∀ c a w,Q (.panic c) (a.put oi.dst v) w->Q (.panic c) a w)
  (hy:(Region.wanted oi (yielded ops a.tmps)=true/\(execOp a.eval oi).run P w=.ok (.value v) w)\/(Region.wanted oi (yielded ops a.tmps)=false/\v=undef)) (hab:oi.about P w a.eval=none)
  (h:wpAnyIn F n P md ops Q fuel (listed.setIfInBounds i true) (a.put oi.dst v) w):wpAnyIn F n P md ops Q (fuel+1) listed a w:=by
 unfold peersB at hC;simp only [Bool.and_eq_true,List.all_eq_true,beq_iff_eq,List.mem_range,Bool.or_eq_true,Bool.not_eq_true',Bool.not_eq_false'] at hC;obtain ⟨⟨⟨h1,h2⟩,h3⟩,h4⟩:=hC;refine wpAnyIn_look_first hnd hi (Region.noSelect_spec hs) hQ h1 h2 fuel listed a h3 (Region.free_spec hi hf) (fun j hj hl=>?_) (fun j oj hoj hc hl=>?_) (by simpa using hr) ⟨hy.imp (fun ⟨a,b⟩=>⟨a,fun u hu=>by subst hu; exact b⟩) id,fun u hu=>by subst hu; exact hab⟩ h
 ·rcases (h4 j hj).1 with h | h
  ·rw [h] at hl; cases hl
  ·exact h
 ·have hj:=(Array.getElem?_eq_some_iff.1 hoj).1;rcases (h4 j hj).2 with (h | h) | h
  ·rw [h] at hc; cases hc
  ·rw [h] at hl; cases hl
  ·rw [hoj] at h; exact h
theorem wpAnyIn_only {i:Nat} {oi:Oper} {fuel:Nat} {listed:Array Bool} {a:Act} {w:World} (hi:ops[i]? = some oi) (hr:Region.ready md ops listed=[i])
  (h:∀ K:Act->World->Prop,(∀ a' w',wpAnyIn F n P md ops Q fuel (listed.setIfInBounds i true) a' w'->K a' w') ->
   if Region.wanted oi (yielded ops a.tmps) then oi.wpIn F n P a w K Q else (∀ f,oi.about P w a.eval=some f->F.fn f)/\K (a.put oi.dst undef) w):wpAnyIn F n P md ops Q (fuel+1) listed a w:=by
 refine wpAnyIn_ready hr (by simp) fun j hj=>?_;obtain rfl:=List.mem_singleton.1 hj;exact wpOpIn_step hi h
end
section
variable {P:Program} {ops:Array Oper} {Q:Exit->Act->World->Prop} {md:Region.Mode} {F:Fence} {n:Nat}
theorem Xt (i fu:Nat) {oi:Oper} {v:Value} {fuel:Nat} {listed l1:Array Bool} {a a1:Act} {w:World} (hi:ops[i]? = some oi) (h0:(execOp a.eval oi).run P w=.ok (.value v) w) (h:wpAnyIn F n P md ops Q fuel l1 a1 w) (hnd:undeferred ops=true:=by kernel_rfl) (hC:peersB md ops i listed (closeB md ops i fu listed)=true:=by kernel_rfl) (hs:Region.noSelect ops=true:=by kernel_rfl) (hf:Region.free md ops listed i=true:=by kernel_rfl) (hr:(Region.ready md ops listed).contains i=true:=by kernel_rfl) (hQ:∀ c a w,Q (.panic c) (a.put oi.dst v) w->Q (.panic c) a w:=by exact fun _ _ _ h=>h) (hw:Region.wanted oi (yielded ops a.tmps)=true:=by kernel_rfl) (hab:oi.about P w a.eval=none:=by exact rfl) (hp:a.put oi.dst v=a1:=by first | ((try simp only [Act.put,nm]); with_reducible rfl) | (simp only [Act.put,nm]; done)) (hl1:listed.setIfInBounds i true=l1:=by first | ((try simp only [Act.put,nm]); with_reducible rfl) | (simp only [Act.put,nm]; done)):wpAnyIn F n P md ops Q (fuel+1) listed a w:=by
 subst hp; subst hl1; exact wpAnyIn_look hi hnd hC hs hf hr hQ (Or.inl ⟨hw,h0⟩) hab h
theorem Xg (i fu:Nat) {oi:Oper} {v:Value} {fuel:Nat} {listed l1:Array Bool} {a a1:Act} {w:World} (h:wpAnyIn F n P md ops Q fuel l1 a1 w) (hi:ops[i]? = some oi:=by exact rfl) (h0:(execOp a.eval oi).run P w=.ok (.value v) w:=by first | (go_simp; done) | (go_simp; with_reducible rfl)) (hnd:undeferred ops=true:=by kernel_rfl) (hC:peersB md ops i listed (closeB md ops i fu listed)=true:=by kernel_rfl) (hs:Region.noSelect ops=true:=by kernel_rfl) (hf:Region.free md ops listed i=true:=by kernel_rfl) (hr:(Region.ready md ops listed).contains i=true:=by kernel_rfl) (hQ:∀ c a w,Q (.panic c) (a.put oi.dst v) w->Q (.panic c) a w:=by exact fun _ _ _ h=>h) (hw:Region.wanted oi (yielded ops a.tmps)=true:=by kernel_rfl) (hab:oi.about P w a.eval=none:=by exact rfl) (hp:a.put oi.dst v=a1:=by first | ((try simp only [Act.put,nm]); with_reducible rfl) | (simp only [Act.put,nm]; done)) (hl1:listed.setIfInBounds i true=l1:=by first | ((try simp only [Act.put,nm]); with_reducible rfl) | (simp only [Act.put,nm]; done)):wpAnyIn F n P md ops Q (fuel+1) listed a w:=by
 subst hp; subst hl1; exact wpAnyIn_look hi hnd hC hs hf hr hQ (Or.inl ⟨hw,h0⟩) hab h
theorem Xs (i fu:Nat) {oi:Oper} {fuel:Nat} {listed l1:Array Bool} {a a1:Act} {w:World} (h:wpAnyIn F n P md ops Q fuel l1 a1 w) (hi:ops[i]? = some oi:=by exact rfl) (hnd:undeferred ops=true:=by kernel_rfl) (hC:peersB md ops i listed (closeB md ops i fu listed)=true:=by kernel_rfl) (hs:Region.noSelect ops=true:=by kernel_rfl) (hf:Region.free md ops listed i=true:=by kernel_rfl) (hr:(Region.ready md ops listed).contains i=true:=by kernel_rfl) (hQ:∀ c a w,Q (.panic c) (a.put oi.dst undef) w->Q (.panic c) a w:=by exact fun _ _ _ h=>h) (hw:Region.wanted oi (yielded ops a.tmps)=false:=by kernel_rfl) (hab:oi.about P w a.eval=none:=by exact rfl) (hp:a.put oi.dst undef=a1:=by first | ((try simp only [Act.put,nm]); with_reducible rfl) | (simp only [Act.put,nm]; done)) (hl1:listed.setIfInBounds i true=l1:=by first | ((try simp only [Act.put,nm]); with_reducible rfl) | (simp only [Act.put,nm]; done)):wpAnyIn F n P md ops Q (fuel+1) listed a w:=by
 subst hp; subst hl1; exact wpAnyIn_look hi hnd hC hs hf hr hQ (Or.inr ⟨hw,rfl⟩) hab h
end
end
section
open Go.RowKit Go.Proofs
def HalfRow {α:Type} (R0 R1:α->List Value->Prop) (sz k skip:Nat) (cur:Array Value) (xs:List α):Prop :=
 ∀ i x,i≠skip->xs[i]? = some x->∃ cs,(if i<k then R1 x cs else R0 x cs)/\cs.length=sz/\∀ j u,cs[j]? = some u->cur[i*sz+j]? = some u
theorem HalfRow.mono {α:Type} {R0 R1 R2:α->List Value->Prop} {sz k skip:Nat} {cur:Array Value} {xs:List α} (h:HalfRow R0 R1 sz k skip cur xs) (hR:∀ x cs,R1 x cs->R2 x cs):HalfRow R0 R2 sz k skip cur xs:=by
 intro i x hi hx;obtain ⟨cs,hr,hl,hc⟩:=h i x hi hx;refine ⟨cs,?_,hl,hc⟩;by_cases hik:i<k
 ·rw [if_pos hik] at hr ⊢; exact hR _ _ hr
 ·rw [if_neg hik] at hr ⊢; exact hr
theorem HalfRow.at {α:Type} [Inhabited α] {R0 R1:α->List Value->Prop} {sz k skip:Nat} {cur:Array Value} {xs:List α} (h:HalfRow R0 R1 sz k skip cur xs) (hk:k<xs.length) (hs:k≠skip) :
  ∃ cs,R0 (nth xs k) cs/\cs.length=sz/\∀ j u,cs[j]? = some u->cur[k*sz+j]? = some u:=by
 obtain ⟨cs,hr,hl,hc⟩:=h k _ hs (get_of_lt hk);rw [if_neg (Nat.lt_irrefl k)] at hr;exact ⟨cs,hr,hl,hc⟩
theorem HalfRow.put {α:Type} {R0 R1:α->List Value->Prop} {sz k skip:Nat} {cur cur':Array Value} {xs:List α} (h:HalfRow R0 R1 sz k skip cur xs) (hs:∀ i,i<xs.length->i≠k->i≠skip)
  (hc:∀ q,(q<k*sz\/(k+1)*sz<=q)->cur'[q]? = cur[q]?):HalfRow R0 R1 sz k k cur' xs:=by
 intro i x hi hx;obtain ⟨cs,hr,hl,hcc⟩:=h i x (hs i (List.getElem?_eq_some_iff.1 hx).1 hi) hx;refine ⟨cs,hr,hl,fun j u hu=>?_⟩;rw [hc _ ?_]
 ·exact hcc j u hu
 ·have hj:j<sz:=by have:=(List.getElem?_eq_some_iff.1 hu).1; rwa [hl] at this
  rcases Nat.lt_or_gt_of_ne hi with h1 | h1
  ·left;have:(i+1)*sz<=k*sz:=Nat.mul_le_mul_right _ h1;rw [Nat.succ_mul] at this; omega
  ·right;have:(k+1)*sz<=i*sz:=Nat.mul_le_mul_right _ h1;omega
theorem HalfRow.close {α:Type} [Inhabited α] {R0 R1:α->List Value->Prop} {sz k n:Nat} {cur:Array Value} {xs:List α} (h:HalfRow R0 R1 sz k k cur xs) {cs:List Value} (hr:R1 (nth xs k) cs) (hl:cs.length=sz)
  (hc:∀ j u,cs[j]? = some u->cur[k*sz+j]? = some u):HalfRow R0 R1 sz (k+1) n cur xs:=by
 intro i x _ hx;by_cases hik:i=k
 ·subst hik;have:x=nth xs i:=by rw [get_of_lt (List.getElem?_eq_some_iff.1 hx).1] at hx; exact (Option.some.inj hx).symm
  rw [this];exact ⟨cs,by rw [if_pos (by omega)]; exact hr,hl,hc⟩
 ·obtain ⟨cs',hr',hl',hc'⟩:=h i x hik hx;refine ⟨cs',?_,hl',hc'⟩;by_cases h1:i<k
  ·rw [if_pos h1] at hr'; rw [if_pos (by omega)]; exact hr'
  ·rw [if_neg h1] at hr'; rw [if_neg (by omega)]; exact hr'
theorem HalfRow.done {α:Type} {R0 R1:α->List Value->Prop} {sz:Nat} {cur:Array Value} {xs:List α} (h:HalfRow R0 R1 sz xs.length xs.length cur xs):RowOf R1 sz cur xs:=by
 intro i x hx;have hi:=(List.getElem?_eq_some_iff.1 hx).1;obtain ⟨cs,hr,hl,hc⟩:=h i x (by omega) hx;rw [if_pos hi] at hr;exact ⟨cs,hr,hl,hc⟩
theorem HalfRow.start {α:Type} [Inhabited α] {R0 R1:α->List Value->Prop} {sz n:Nat} {cur:Array Value} {xs:List α} {f:Nat->List Value} (hf:∀ i,i<xs.length->R0 (nth xs i) (f i)/\(f i).length=sz)
  (hc:cur.toList.take (xs.length*sz)=((List.range xs.length).map f).flatten):HalfRow R0 R1 sz 0 n cur xs:=by
 intro i x _ hx;have hi:=(List.getElem?_eq_some_iff.1 hx).1;have:x=nth xs i:=by rw [get_of_lt hi] at hx; exact (Option.some.inj hx).symm
 rw [this];refine ⟨f i,by rw [if_neg (by omega)]; exact (hf i hi).1,(hf i hi).2,fun j u hu=>?_⟩;have hj:j<sz:=by have:=(List.getElem?_eq_some_iff.1 hu).1; rwa [(hf i hi).2] at this
 have h1:=flat_get f sz xs.length (fun i hi=>(hf i hi).2) i j hi hj;have h2:i*sz+j<xs.length*sz:=by
  have:(i+1)*sz<=xs.length*sz:=Nat.mul_le_mul_right _ hi;rw [Nat.succ_mul] at this; omega
 have h3:=congrArg (fun z=>z[i*sz+j]?) hc;simp only [List.getElem?_take] at h3;rw [if_pos h2,h1,hu] at h3
 simpa using h3
theorem row_set {w:World} {b j:Nat} {v:Value} {cur:Array Value} {T:TypeId} (h:w.heap[b]? = some (.cells cur T (0,0))):(w.setCell ⟨b,j,none⟩ v).heap[b]? = some (.cells (cur.setIfInBounds j v) T (0,0)):=by
 unfold World.setCell;simp only [Array.getElem?_modify,if_true,h,Option.map_some,Option.isSome_none,Bool.false_eq_true,if_false]
theorem row_cell {w:World} {b j:Nat} {u:Value} {cur:Array Value} {T:TypeId} (h:w.heap[b]? = some (.cells cur T (0,0))) (hj:cur[j]? = some u):w.cell? ⟨b,j,none⟩=some u:=by
 rw [cell_of_row w b j cur T (0,0) h]; exact hj
theorem row_free {w:World} {b:Nat} {cur:Array Value} {T:TypeId} (h:w.heap[b]? = some (.cells cur T (0,0))) (j:Nat):w.frozen? ⟨b,j,none⟩=false:=by
 unfold World.frozen?;rw [show w.heap[(⟨b,j,none⟩:Addr).block]? = some (.cells cur T (0,0)) from h];simp
theorem row_lt {w:World} {b:Nat} {o:Obj} (h:w.heap[b]? = some o):b<w.heap.size:=(Array.getElem?_eq_some_iff.1 h).1
theorem right_parts {g:List Ty} {x:Ty} (h:rightB g x=true):x.parts.length<=8:=by
 unfold rightB at h;split at h
 ·simp [noParts] at h; grind
 split at h
 ·simp [heldB] at h;have:=h.1.1.1.1.2;split at this
  ·rename_i hp; rw [hp]; simp
  ·cases this
 split at h
 ·simp [recordedB,differentB] at h; grind
 split at h
 ·simp [objectsB,differentB] at h; grind
 split at h
 ·simp [noParts] at h; grind
 split at h
 ·simp [noParts] at h; grind
 ·cases h
theorem right_methods {g:List Ty} {x:Ty} (h:rightB g x=true):x.methods.length<=8/\x.overs.length<=8/\∀ m,m∈x.methods->m.sig.args.length<=6/\m.sig.raises.length<=6:=by
 have nope:noRows x=true->x.methods.length<=8/\x.overs.length<=8/\∀ m,m∈x.methods->m.sig.args.length<=6/\m.sig.raises.length<=6:=by
  intro h;simp only [noRows,Bool.and_eq_true,beq_iff_eq] at h;refine ⟨by omega,by omega,fun m hm=>?_⟩;rw [List.eq_nil_of_length_eq_zero h.1] at hm; cases hm
 unfold rightB at h;split at h
 ·simp only [Bool.and_eq_true] at h; exact nope h.2
 split at h
 ·simp only [Bool.and_eq_true] at h; exact nope h.2
 split at h
 ·simp only [Bool.and_eq_true] at h; exact nope h.2
 split at h
 ·simp only [Bool.and_eq_true,objectsB,objectB,differentB,List.length_map,decide_eq_true_eq,List.all_eq_true,signedB] at h;obtain ⟨⟨⟨_,⟨⟨⟨h1,_⟩,_,h3⟩,_,h5⟩,_⟩,_⟩,_⟩:=h;exact ⟨h3,h5,fun m hm=>⟨(h1 m hm).1.1.1.1.1,(h1 m hm).1.1.1.1.2⟩⟩
 split at h
 ·simp only [Bool.and_eq_true] at h; exact nope h.2
 split at h
 ·simp only [Bool.and_eq_true] at h; exact nope h.2
 ·cases h
end
end Go.Proofs.YtjffkeoajkhbmaaGreat
