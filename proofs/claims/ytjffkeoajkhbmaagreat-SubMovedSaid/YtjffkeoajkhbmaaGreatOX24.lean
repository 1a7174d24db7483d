/- Circles: the search finds one just if there is one. The reference's words, and what leads up. The reference's Agree. The reference's names, symbols and brands: they answer as the types' own. How the data of a call read as graphs and revelations. sub.CheckDerive: are steps a derivation? A search over truth values: what is reached by one step at least; in plain Lean. The reference's parts, super types and lists of strings. CheckDerive of too many steps. A table of truth values, a row of them, and a queue, in blocks of the call's own. The reference's lists of strings and signatures. -/
import Derived.ProofKit
import Derived.SizedLaws
import Derived.StillTactics
import Derived.Test.YtjffkeoajkhbmaaGreatOX0
import Derived.Test.YtjffkeoajkhbmaaGreatOX2
import Derived.Test.YtjffkeoajkhbmaaGreatOX3
import Derived.Test.YtjffkeoajkhbmaaGreatOX7
import Derived.Test.YtjffkeoajkhbmaaGreatOX8
import Derived.Test.YtjffkeoajkhbmaaGreatOX10
import Derived.Test.YtjffkeoajkhbmaaGreatOX11
import Derived.Test.YtjffkeoajkhbmaaGreatOX13
import Derived.Test.YtjffkeoajkhbmaaGreatOX14
import Derived.Test.YtjffkeoajkhbmaaGreatOX18
import Derived.Test.YtjffkeoajkhbmaaGreatOX22
namespace Go.Proofs.YtjffkeoajkhbmaaGreat
set_option linter.unusedSimpArgs false
set_option linter.unusedVariables false
set_option maxRecDepth 100000
set_option maxHeartbeats 8000000
section
inductive Way (succ:Nat->List Nat) (a:Nat):Nat->Prop
 | one {b:Nat}:b∈succ a->Way succ a b
 | step {b c:Nat}:Way succ a b->c∈succ b->Way succ a c
theorem Way.some {succ:Nat->List Nat} {a b:Nat} (h:Way succ a b):succ a≠[]:=by
 induction h with
 | one h=>intro e; rw [e] at h; cases h
 | step _ _ ih=>exact ih
theorem visitC_ones (succ:Nat->List Nat):∀ (f:Nat) (st:Nat->Nat) (c:Nat),(visitC succ f st c).1=false->∀ x,(visitC succ f st c).2 x=1↔st x=1
 | 0,_,_,_,_=>Iff.rfl
 | f+1,st,c,h,x=>by
  have loop:∀ (us:List Nat) (st:Nat->Nat),(loopC (visitC succ f) us st).1=false->∀ x,(loopC (visitC succ f) us st).2 x=1↔st x=1:=by
   intro us
   induction us with
   | nil=>intro st _ x; exact Iff.rfl
   | cons u us ih =>
    intro st h x;simp only [loopC] at h ⊢;split at h
    ·rename_i hv; rw [hv] at h; cases h
    ·rename_i hv
     rw [if_neg hv];rw [ih _ h x];exact visitC_ones succ f st u (by simpa using hv) x
  simp only [visitC] at h ⊢;split at h
  ·rename_i h0; rw [if_pos h0]
  ·rename_i h0
   rw [if_neg h0];split at h
   ·rename_i hv; rw [hv] at h; cases h
   ·rename_i hv
    rw [if_neg hv];have:=loop (succ c) (upd st c 1) (by simpa using hv) x;show upd _ c 2 x=1↔_
    unfold upd at this ⊢;by_cases hx:x=c
    ·rw [if_pos hx,hx]; omega
    ·rw [if_neg hx];rw [if_neg hx] at this;exact this
theorem visitC_sound {n:Nat} {succ:Nat->List Nat} (hs:∀ x,x<n->∀ u,u∈succ x->u<n):∀ (f:Nat) (st:Nat->Nat) (c:Nat),c<n->(∀ x,st x=1->Way succ x c) ->
  (visitC succ f st c).1=true->∃ z,z<n/\Way succ z z
 | 0,_,_,_,_,h=>by cases h
 | f+1,st,c,hc,hw,h=>by
  have loop:∀ (us:List Nat) (st:Nat->Nat),(∀ u,u∈us->u∈succ c)->(∀ x,st x=1->x=c\/Way succ x c)->(loopC (visitC succ f) us st).1=true->∃ z,z<n/\Way succ z z:=by
   intro us
   induction us with
   | nil=>intro st _ _ h; cases h
   | cons u us ih =>
    intro st hu hw h;have hus:=hu u (List.mem_cons_self ..);have hwu:∀ x,st x=1->Way succ x u:=fun x hx=>by
     rcases hw x hx with rfl | hx
     ·exact .one hus
     ·exact hx.step hus
    simp only [loopC] at h;split at h
    ·rename_i hv; exact visitC_sound hs f st u (hs c hc u hus) hwu hv
    ·rename_i hv
     refine ih _ (fun v hv=>hu v (List.mem_cons_of_mem _ hv)) (fun x hx=>?_) h;exact hw x ((visitC_ones succ f st u (by simpa using hv) x).1 hx)
  simp only [visitC] at h;split at h
  ·exact ⟨c,hc,hw c (by simpa using h)⟩
  ·split at h
   ·rename_i hv
    refine loop (succ c) (upd st c 1) (fun u hu=>hu) (fun x hx=>?_) hv;unfold upd at hx;by_cases hxc:x=c
    ·exact Or.inl hxc
    ·rw [if_neg hxc] at hx; exact Or.inr (hw x hx)
   ·cases h
def Fine (succ:Nat->List Nat) (st:Nat->Nat):Prop:=∀ x,st x=2->(∀ u,u∈succ x->st u=2)/\¬ Way succ x x
theorem visitC_done {n:Nat} {succ:Nat->List Nat} (hs:∀ x,x<n->∀ u,u∈succ x->u<n):∀ (f:Nat) (st:Nat->Nat) (c:Nat),c<n->(∀ j,st j<=2)->zeros n st<f->Fine succ st->(visitC succ f st c).1=false ->
  (visitC succ f st c).2 c=2/\Fine succ (visitC succ f st c).2/\∀ x,st x=2->(visitC succ f st c).2 x=2
 | 0,_,_,_,_,h,_,_=>absurd h (Nat.not_lt_zero _)
 | f+1,st,c,hc,h2,hz,hF,h=>by
  have loop:∀ (us:List Nat) (st:Nat->Nat),(∀ u,u∈us->u<n)->(∀ j,st j<=2)->zeros n st<f->Fine succ st->(loopC (visitC succ f) us st).1=false ->
    (∀ u,u∈us->(loopC (visitC succ f) us st).2 u=2)/\Fine succ (loopC (visitC succ f) us st).2/\(∀ x,st x=2->(loopC (visitC succ f) us st).2 x=2):=by
   intro us
   induction us with
   | nil=>intro st _ _ _ hF _; exact ⟨fun u hu=>(by cases hu),hF,fun x hx=>hx⟩
   | cons u us ih =>
    intro st hu h2 hz hF h;simp only [loopC] at h ⊢;split at h
    ·rename_i hv; rw [hv] at h; cases h
    ·rename_i hv
     rw [if_neg hv];obtain ⟨k1,k2,k3⟩:=visitC_done hs f st u (hu u (List.mem_cons_self ..)) h2 hz hF (by simpa using hv);have hm:=visitC_mono succ f st u 0 h2;obtain ⟨m1,m2,m3⟩:=ih _ (fun v hv=>hu v (List.mem_cons_of_mem _ hv)) hm.2 (Nat.lt_of_le_of_lt (zeros_le (fun i=>(visitC_mono succ f st u i h2).1)) hz) k2 h;refine ⟨fun v hv=>?_,m2,fun x hx=>m3 x (k3 x hx)⟩;rcases List.mem_cons.1 hv with rfl | hv
     ·exact m3 _ k1
     ·exact m1 v hv
  simp only [visitC] at h ⊢;split at h
  ·rename_i h0
   rw [if_pos h0];have hn1:st c≠1:=by simpa using h
   have:=h2 c;exact ⟨by show st c=2; omega,hF,fun x hx=>hx⟩
  ·rename_i h0
   rw [if_neg h0];have hc0:st c=0:=by omega
   split at h
   ·rename_i hv; rw [hv] at h; cases h
   ·rename_i hv
    rw [if_neg hv];have hv:(loopC (visitC succ f) (succ c) (upd st c 1)).1=false:=by simpa using hv
    have h21:∀ j,upd st c 1 j<=2:=fun j=>by unfold upd; split; omega; exact h2 j
    have hz1:zeros n (upd st c 1)<f:=by have:=zeros_upd (st:=st) hc hc0 (show 0<1 by decide); omega
    have hne:∀ x,st x=2->x≠c:=fun x hx e=>by rw [e,hc0] at hx; cases hx
    have hF1:Fine succ (upd st c 1):=fun x hx=>by
     unfold upd at hx;by_cases hxc:x=c
     ·rw [if_pos hxc] at hx; cases hx
     ·rw [if_neg hxc] at hx;refine ⟨fun u hu=>?_,(hF x hx).2⟩;have:=(hF x hx).1 u hu;unfold upd;rw [if_neg (hne u this)]; exact this
    obtain ⟨m1,m2,m3⟩:=loop (succ c) (upd st c 1) (hs c hc) h21 hz1 hF1 hv;have hone:(loopC (visitC succ f) (succ c) (upd st c 1)).2 c=1:=by
     have ones:∀ (us:List Nat) (st:Nat->Nat),(loopC (visitC succ f) us st).1=false->∀ x,(loopC (visitC succ f) us st).2 x=1↔st x=1:=by
      intro us
      induction us with
      | nil=>intro st _ x; exact Iff.rfl
      | cons u us ih =>
       intro st h x;simp only [loopC] at h ⊢;split at h
       ·rename_i hv; rw [hv] at h; cases h
       ·rename_i hv
        rw [if_neg hv];rw [ih _ h x];exact visitC_ones succ f st u (by simpa using hv) x
     exact (ones _ _ hv c).2 (by unfold upd; rw [if_pos rfl])
    generalize (loopC (visitC succ f) (succ c) (upd st c 1)).2=st2 at m1 m2 m3 hone;refine ⟨by show upd st2 c 2 c=2; unfold upd; rw [if_pos rfl],fun x hx=>?_,fun x hx=>?_⟩
    ·have hx:upd st2 c 2 x=2:=hx;have two:∀ u,st2 u=2->upd st2 c 2 u=2:=fun u hu=>by unfold upd; split; rfl; exact hu
     unfold upd at hx;by_cases hxc:x=c
     ·subst hxc;refine ⟨fun u hu=>two u (m1 u hu),fun hw=>?_⟩;have:∀ z,Way succ x z->st2 z=2:=fun z hz=>by
       induction hz with
       | one hb=>exact m1 _ hb
       | step _ hcc ih=>exact (m2 _ ih).1 _ hcc
      have:=this x hw;rw [hone] at this; cases this
     ·rw [if_neg hxc] at hx;exact ⟨fun u hu=>two u ((m2 x hx).1 u hu),(m2 x hx).2⟩
    ·show upd st2 c 2 x=2
     unfold upd;rw [if_neg (hne x hx)];refine m3 x ?_;unfold upd;rw [if_neg (hne x hx)]; exact hx
theorem loopC_all {n:Nat} {succ:Nat->List Nat} (hs:∀ x,x<n->∀ u,u∈succ x->u<n) {f:Nat}:∀ (us:List Nat) (st:Nat->Nat),(∀ u,u∈us->u<n)->(∀ j,st j<=2)->zeros n st<f->Fine succ st->(loopC (visitC succ f) us st).1=false ->
  (∀ u,u∈us->(loopC (visitC succ f) us st).2 u=2)/\Fine succ (loopC (visitC succ f) us st).2/\(∀ x,st x=2->(loopC (visitC succ f) us st).2 x=2)
 | [],st,_,_,_,hF,_=>⟨fun u hu=>(by cases hu),hF,fun x hx=>hx⟩
 | u :: us,st,hu,h2,hz,hF,h=>by
  simp only [loopC] at h ⊢;split at h
  ·rename_i hv; rw [hv] at h; cases h
  ·rename_i hv
   rw [if_neg hv];obtain ⟨k1,k2,k3⟩:=visitC_done hs f st u (hu u (List.mem_cons_self ..)) h2 hz hF (by simpa using hv);have hm:=visitC_mono succ f st u 0 h2;obtain ⟨m1,m2,m3⟩:=loopC_all hs us _ (fun v hv=>hu v (List.mem_cons_of_mem _ hv)) hm.2 (Nat.lt_of_le_of_lt (zeros_le (fun i=>(visitC_mono succ f st u i h2).1)) hz) k2 h;refine ⟨fun v hv=>?_,m2,fun x hx=>m3 x (k3 x hx)⟩;rcases List.mem_cons.1 hv with rfl | hv
   ·exact m3 _ k1
   ·exact m1 v hv
theorem loopC_some {n:Nat} {succ:Nat->List Nat} (hs:∀ x,x<n->∀ u,u∈succ x->u<n) {f:Nat}:∀ (us:List Nat) (st:Nat->Nat),(∀ u,u∈us->u<n)->(∀ x,st x≠1)->(loopC (visitC succ f) us st).1=true->∃ z,z<n/\Way succ z z
 | [],_,_,_,h=>by cases h
 | u :: us,st,hu,h1,h=>by
  simp only [loopC] at h;split at h
  ·rename_i hv; exact visitC_sound hs f st u (hu u (List.mem_cons_self ..)) (fun x hx=>absurd hx (h1 x)) hv
  ·rename_i hv
   refine loopC_some hs us _ (fun v hv=>hu v (List.mem_cons_of_mem _ hv)) (fun x hx=>?_) h;exact h1 x ((visitC_ones succ f st u (by simpa using hv) x).1 hx)
theorem circB_iff {n:Nat} {succ:Nat->List Nat} {C:Nat->Nat} (hs:∀ x,x<n->∀ u,u∈succ x->u<n) (hC:∀ i,i<n->C i<n) (hl:∀ a,a<n->succ a≠[]->∃ i,i<n/\C i=a) :
  circB succ n C=true↔∃ a,a<n/\Way succ a a:=by
 have hin:∀ u,u∈(List.range n).map C->u<n:=fun u hu=>by
  obtain ⟨i,hi,rfl⟩:=List.mem_map.1 hu;exact hC i (List.mem_range.1 hi)
 constructor
 ·intro h;exact loopC_some hs _ _ hin (fun x=>by decide) h
 ·rintro ⟨a,ha,hw⟩;cases hb:circB succ n C with
  | true=>rfl
  | false =>
   obtain ⟨m1,m2,_⟩:=loopC_all hs _ _ hin (fun j=>by decide) (by rw [zeros_start]; omega) (fun x hx=>by cases hx) hb;obtain ⟨i,hi,rfl⟩:=hl a ha hw.some;exact absurd hw (m2 _ (m1 _ (List.mem_map.2 ⟨i,List.mem_range.2 hi,rfl⟩))).2
end
section
open Go.RowKit Go.Proofs
theorem bneOf {α:Type} [BEq α] {a b:α} {c:Bool} (h:(a==b)=c):(a != b)=!c:=by unfold bne; rw [h]
end
section
open Go.RowKit Go.Proofs
def Drew (w w':World):Prop:=∃ m,w'=w.drewN m
theorem Drew.refl (w:World):Drew w w:=⟨0,rfl⟩
theorem Drew.ext {w w':World} (h:Drew w w'):Ext w w':=by
 obtain ⟨m,rfl⟩:=h;exact below_drewN (Ext.refl _) m
end
section
open Go.RowKit Go.Proofs
end
section
open Go.RowKit Go.Proofs
section
variable {H:Type} {enc:TypeId × Value->H} {W:World}
def Fits (P:Program) (t:TypeId) (d:DataW H):Prop:=∀ n,n∈d.weights P t->n<=reachBytes
theorem reach_max:reachBytes=maxBytes:=by decide
theorem fits_each {P:Program} {ts:List TypeId} {ds:List (DataW H)} (h:∀ n,n∈DataW.weightsEach P ts ds->n<=reachBytes) {j:Nat} {t:TypeId} {d:DataW H} (ht:ts[j]? = some t) (hd:ds[j]? = some d):Fits P t d :=
 fun n hn=>h n (DataW.weights_mem_each ht hd n hn)
theorem weights_all {P:Program} {e:TypeId}:∀ {ds:List (DataW H)} {i:Nat} {d:DataW H},ds[i]? = some d->∀ n,n∈d.weights P e->n∈DataW.weightsAll P e ds
 | d0 :: ds,0,d,hd,n,hn=>by
  simp only [List.getElem?_cons_zero,Option.some.injEq] at hd;subst hd;simp only [DataW.weightsAll,List.mem_append];exact Or.inl hn
 | d0 :: ds,i+1,d,hd,n,hn=>by
  simp only [List.getElem?_cons_succ] at hd;simp only [DataW.weightsAll,List.mem_append];exact Or.inr (weights_all hd n hn)
 | [],_,_,hd,_,_=>by simp at hd
theorem pick_list {α:Type} (n:Nat) (Q:Nat->α->Prop) (h:∀ i,i<n->∃ x,Q i x):∃ xs:List α,xs.length=n/\∀ i x,xs[i]? = some x->Q i x:=by
 induction n with
 | zero=>exact ⟨[],rfl,fun i x hx=>by simp at hx⟩
 | succ n ih =>
  obtain ⟨xs,hl,hx⟩:=ih (fun i hi=>h i (by omega));obtain ⟨y,hy⟩:=h n (by omega);refine ⟨xs++[y],by simp [hl],fun i x hi=>?_⟩;by_cases hin:i<n
  ·rw [List.getElem?_append_left (by omega)] at hi;exact hx i x hi
  ·have hi2:=(List.getElem?_eq_some_iff.1 hi).1;simp at hi2;have:i=n:=by omega
   subst this;rw [List.getElem?_append_right (by omega),hl] at hi;simp at hi;rw [<- hi]; exact hy
theorem open_slw {α:Type} (R:World->α->List Value->Prop) (sz:Nat) {t e:TypeId} {fuel:Nat} {cs:List Value} {x:DataW H × List MemPlace} (ht:Tryz.prog.underlying t=some (.slice e)) (hsz:Tryz.prog.cellsOf e=sz) (hpos:0<sz) (hby:8*sz<=Tryz.prog.bytesOf e)
  (hel:∀ n cs y,DataW.trod enc Tryz.prog W 0 (fun _=>true) true n e cs=some y->Fits Tryz.prog e y.1->∃ x,R W x cs/\cs.length=sz)
  (h:DataW.trod enc Tryz.prog W 0 (fun _=>true) true fuel t cs=some x) (hf:Fits Tryz.prog t x.1):∃ v xs,cs=[v]/\SlW R sz W v xs:=by
 rcases DataW.trod_slice ht h with ⟨rfl,rfl⟩ | ⟨a,len,cap,elems,rest,n,rfl,rfl,rfl,-,hlc,hcm,hlen,hall,-,-⟩
 ·exact ⟨_,[],rfl,SlW.nil _ _ _⟩
 ·subst hsz;have hw:(elems.length+rest.length)*Tryz.prog.bytesOf e<=reachBytes:=hf _ (by simp [DataW.weights,ht]);have hfe:∀ (i:Nat) (y:DataW H × List MemPlace),elems[i]? = some y->Fits Tryz.prog e y.1:=fun i y hy m hm=>by
   refine hf m ?_;simp only [DataW.weights,ht,List.mem_cons,List.mem_append];exact Or.inr (Or.inl (weights_all (i:=i) (d:=y.1) (by simp [hy]) m hm))
  have hspot:0<len->a.spot=none:=fun h0=>by
   obtain ⟨y,hy⟩:∃ y,elems[0]? = some y:=⟨_,List.getElem?_eq_getElem (by omega)⟩;have h1:=hall 0 h0;rw [hy,Nat.zero_mul] at h1;cases hc:W.cells? 0 (a.add 0) (Tryz.prog.cellsOf e) with
   | none=>rw [hc] at h1; cases h1
   | some cs =>
    obtain ⟨-,hl0,hcell⟩:=World.cells?_some hc;have hh:=hcell 0 (by omega);rw [List.getElem?_eq_getElem (by omega)] at hh;have h2:=World.cell?_spot hh
    simpa [Addr.add] using h2
  obtain ⟨xs,hxl,hxs⟩:=pick_list len (fun i x=>∃ b off cs,a=⟨b,off,none⟩/\R W x cs/\cs.length=Tryz.prog.cellsOf e/\∀ j u,cs[j]? = some u->W.cell? ⟨b,off+i*Tryz.prog.cellsOf e+j,none⟩=some u) (fun i hi=>by
   obtain ⟨y,hy⟩:∃ y,elems[i]? = some y:=⟨_,List.getElem?_eq_getElem (by omega)⟩;have h1:=hall i hi;rw [hy] at h1;cases hc:W.cells? 0 (a.add (i*Tryz.prog.cellsOf e)) (Tryz.prog.cellsOf e) with
   | none=>rw [hc] at h1; cases h1
   | some cs =>
    rw [hc] at h1;obtain ⟨x,hx,hl⟩:=hel n cs y h1 (hfe i y hy);obtain ⟨-,-,hcell⟩:=World.cells?_some hc;obtain ⟨b,off,spot⟩:=a;have hs:spot=none:=hspot (by omega);subst hs;refine ⟨x,b,off,cs,rfl,hx,hl,fun j u hj=>?_⟩;have hjl:j<Tryz.prog.cellsOf e:=by have:=(List.getElem?_eq_some_iff.1 hj).1; omega
    have:=hcell j hjl;rw [hj] at this;rw [Addr.add_lit,Addr.add_lit] at this;exact this)
  refine ⟨_,xs,rfl,some a,cap,by rw [hxl],by omega,?_,fun i x hx=>?_⟩
  ·rw [<- reach_max,hxl];refine Nat.le_trans ?_ hw;exact Nat.mul_le_mul (by omega) hby
  ·obtain ⟨b,off,cs,ha,h1,h2,h3⟩:=hxs i x hx;exact ⟨b,off,cs,by rw [ha],h1,h2,h3⟩
theorem read_int {t:TypeId} {k:IntKind} (ht:Tryz.prog.underlying t=some (.int k)) {n:Nat} {cs:List Value} {y:DataW H × List MemPlace} (h:DataW.trod enc Tryz.prog W 0 (fun _=>true) true n t cs=some y):∃ x:Int,cs=[.int k x]/\(Lit.int k x).wf=true:=by
 obtain ⟨x,h1,-,h3⟩:=DataW.trod_int ht h;exact ⟨x,h1,h3⟩
theorem read_str {t:TypeId} (ht:Tryz.prog.underlying t=some .string) {n:Nat} {cs:List Value} {y:DataW H × List MemPlace} (h:DataW.trod enc Tryz.prog W 0 (fun _=>true) true n t cs=some y) (hf:Fits Tryz.prog t y.1):∃ s:BA,cs=[.string s]/\s.size<=maxBytes:=by
 obtain ⟨s,h1,rfl,-⟩:=DataW.trod_string ht h;refine ⟨s,h1,?_⟩;have:=hf s.data.toList.length (by simp [DataW.weights]);rw [<- reach_max]
 simpa using this
theorem read_bool {t:TypeId} (ht:Tryz.prog.underlying t=some .bool) {n:Nat} {cs:List Value} {y:DataW H × List MemPlace} (h:DataW.trod enc Tryz.prog W 0 (fun _=>true) true n t cs=some y):∃ b:Bool,cs=[.bool b]:=by
 obtain ⟨b,h1,-⟩:=DataW.trod_bool ht h;exact ⟨b,h1⟩
theorem wf_i64 {x:Int} (h:(Lit.int .i64 x).wf=true):-9223372036854775808<=x/\x<=9223372036854775807:=by
 simp [Lit.wf,IntKind.min,IntKind.max,IntKind.signed,IntKind.bits] at h;omega
theorem wf_u8 {x:Int} (h:(Lit.int .u8 x).wf=true):0<=x/\x<=255:=by
 simp [Lit.wf,IntKind.min,IntKind.max,IntKind.signed,IntKind.bits] at h;omega
theorem open_fields {t:TypeId} {fs:Array Field} (ht:Tryz.prog.underlying t=some (.struct fs)) {n:Nat} {cs:List Value} {y:DataW H × List MemPlace} (h:DataW.trod enc Tryz.prog W 0 (fun _=>true) true n t cs=some y) (hf:Fits Tryz.prog t y.1) :
  cs.length=Tryz.prog.cellsOf t/\∀ (i:Nat) (ft:TypeId) (off:Nat),(fs[i]?).map (fun f=>(f.type,f.offset))=some (ft,off)->∃ m z,DataW.trod enc Tryz.prog W 0 (fun _=>true) true m ft ((cs.drop off).take (Tryz.prog.cellsOf ft))=some z/\Fits Tryz.prog ft z.1:=by
 obtain ⟨xs,m,rfl,rfl,hl,hxl,hall⟩:=DataW.trod_struct ht h;refine ⟨hl,fun i ft off hfo=>?_⟩;obtain ⟨f,hi,hfe⟩:=Option.map_eq_some_iff.1 hfo;cases hfe;have h1:=hall i f hi;have hil:i<fs.size:=(Array.getElem?_eq_some_iff.1 hi).1;obtain ⟨z,hz⟩:∃ z,xs[i]? = some z:=⟨_,List.getElem?_eq_getElem (by omega)⟩;rw [hz] at h1;refine ⟨m,z,h1,fits_each (ts:=fs.toList.map (·.type)) (ds:=xs.map (·.1)) (fun q hq=>hf q ?_) (j:=i) (by simp [hi]) (by simp [hz])⟩;simp only [DataW.weights,ht];exact hq
theorem c3:Tryz.prog.cellsOf 3=1:=by kernel_rfl
theorem c4:Tryz.prog.cellsOf 4=1:=by kernel_rfl
theorem c5:Tryz.prog.cellsOf 5=1:=by kernel_rfl
theorem c9:Tryz.prog.cellsOf 9=1:=by kernel_rfl
theorem c35:Tryz.prog.cellsOf 35=1:=by kernel_rfl
theorem c84:Tryz.prog.cellsOf 84=1:=by kernel_rfl
theorem c46:Tryz.prog.cellsOf 46=1:=by kernel_rfl
theorem c47:Tryz.prog.cellsOf 47=1:=by kernel_rfl
theorem c48:Tryz.prog.cellsOf 48=1:=by kernel_rfl
theorem c83:Tryz.prog.cellsOf 83=2:=by kernel_rfl
theorem c86:Tryz.prog.cellsOf 86=3:=by kernel_rfl
theorem c88:Tryz.prog.cellsOf 88=5:=by kernel_rfl
theorem c169:Tryz.prog.cellsOf 169=2:=by kernel_rfl
theorem c43:Tryz.prog.cellsOf 43=3:=by kernel_rfl
theorem c50:Tryz.prog.cellsOf 50=10:=by kernel_rfl
theorem open_ints35 {n:Nat} {cs:List Value} {y:DataW H × List MemPlace} (h:DataW.trod enc Tryz.prog W 0 (fun _=>true) true n 35 cs=some y) (hf:Fits Tryz.prog 35 y.1):∃ v xs,cs=[v]/\Ints W v xs :=
 open_slw IsInt 1 Tryz.underlying35 c3 (by decide) (of_decide_eq_true (by kernel_rfl)) (fun m cs y h _=>by
  obtain ⟨x,rfl,hw⟩:=read_int Tryz.underlying3 h;exact ⟨x,⟨rfl,wf_i64 hw⟩,rfl⟩) h hf
theorem open_strs84 {n:Nat} {cs:List Value} {y:DataW H × List MemPlace} (h:DataW.trod enc Tryz.prog W 0 (fun _=>true) true n 84 cs=some y) (hf:Fits Tryz.prog 84 y.1):∃ v xs,cs=[v]/\Strs W v xs :=
 open_slw IsStr 1 Tryz.underlying84 c9 (by decide) (of_decide_eq_true (by kernel_rfl)) (fun m cs y h hf=>by
  obtain ⟨s,rfl,hs⟩:=read_str Tryz.underlying9 h hf;exact ⟨s,⟨rfl,hs⟩,rfl⟩) h hf
theorem take_one {cs:List Value} {v:Value} {k:Nat} (h:(cs.drop k).take 1=[v]):cs[k]? = some v:=by
 have:=congrArg (fun l=>l[0]?) h
 simpa using this
theorem list_of {cs:List Value}:∀ (vs:List Value),cs.length=vs.length->(∀ (i:Nat) (v:Value),vs[i]? = some v->cs[i]? = some v)->cs=vs:=fun vs hl h=>by
 apply List.ext_getElem? ;intro i;by_cases hi:i<vs.length
 ·rw [h i _ (List.getElem?_eq_getElem hi),List.getElem?_eq_getElem hi]
 ·rw [List.getElem?_eq_none (by omega),List.getElem?_eq_none (by omega)]
theorem open_part {n:Nat} {cs:List Value} {y:DataW H × List MemPlace} (h:DataW.trod enc Tryz.prog W 0 (fun _=>true) true n 83 cs=some y) (hf:Fits Tryz.prog 83 y.1):∃ x,IsPart W x cs/\cs.length=2:=by
 obtain ⟨hl,hall⟩:=open_fields Tryz.underlying83 h hf;rw [c83] at hl;obtain ⟨m0,z0,h0,f0⟩:=hall 0 9 0 rfl;obtain ⟨m1,z1,h1,f1⟩:=hall 1 3 1 rfl;obtain ⟨s,e0,hs⟩:=read_str Tryz.underlying9 h0 f0;obtain ⟨x,e1,hx⟩:=read_int Tryz.underlying3 h1;rw [c9] at e0;rw [c3] at e1;have e0:=take_one e0;have e1:=take_one e1;refine ⟨⟨s,x⟩,⟨list_of _ hl (fun i v hv=>?_),hs,wf_i64 hx⟩,hl⟩
 match i,hv with
 | 0,hv=>cases hv; exact e0
 | 1,hv=>cases hv; exact e1
theorem open_over {n:Nat} {cs:List Value} {y:DataW H × List MemPlace} (h:DataW.trod enc Tryz.prog W 0 (fun _=>true) true n 169 cs=some y) (hf:Fits Tryz.prog 169 y.1):∃ x,IsOver W x cs/\cs.length=2:=by
 obtain ⟨hl,hall⟩:=open_fields Tryz.underlying169 h hf;rw [c169] at hl;obtain ⟨m0,z0,h0,f0⟩:=hall 0 9 0 rfl;obtain ⟨m1,z1,h1,f1⟩:=hall 1 9 1 rfl;obtain ⟨s,e0,hs⟩:=read_str Tryz.underlying9 h0 f0;obtain ⟨x,e1,hx⟩:=read_str Tryz.underlying9 h1 f1;rw [c9] at e0 e1;have e0:=take_one e0;have e1:=take_one e1;refine ⟨⟨s,x⟩,⟨list_of _ hl (fun i v hv=>?_),hs,hx⟩,hl⟩
 match i,hv with
 | 0,hv=>cases hv; exact e0
 | 1,hv=>cases hv; exact e1
theorem open_reveal {n:Nat} {cs:List Value} {y:DataW H × List MemPlace} (h:DataW.trod enc Tryz.prog W 0 (fun _=>true) true n 43 cs=some y) (hf:Fits Tryz.prog 43 y.1):∃ x,IsReveal W x cs/\cs.length=3:=by
 obtain ⟨hl,hall⟩:=open_fields Tryz.underlying43 h hf;rw [c43] at hl;obtain ⟨m0,z0,h0,f0⟩:=hall 0 9 0 rfl;obtain ⟨m1,z1,h1,f1⟩:=hall 1 4 1 rfl;obtain ⟨m2,z2,h2,f2⟩:=hall 2 3 2 rfl;obtain ⟨s,e0,hs⟩:=read_str Tryz.underlying9 h0 f0;obtain ⟨b,e1⟩:=read_bool Tryz.underlying4 h1;obtain ⟨x,e2,hx⟩:=read_int Tryz.underlying3 h2;rw [c9] at e0;rw [c4] at e1;rw [c3] at e2;have e0:=take_one e0;have e1:=take_one e1;have e2:=take_one e2;refine ⟨⟨s,b,x⟩,⟨list_of _ hl (fun i v hv=>?_),hs,wf_i64 hx⟩,hl⟩
 match i,hv with
 | 0,hv=>cases hv; exact e0
 | 1,hv=>cases hv; exact e1
 | 2,hv=>cases hv; exact e2
theorem open_meth {n:Nat} {cs:List Value} {y:DataW H × List MemPlace} (h:DataW.trod enc Tryz.prog W 0 (fun _=>true) true n 88 cs=some y) (hf:Fits Tryz.prog 88 y.1):∃ x,IsMeth W x cs/\cs.length=5:=by
 obtain ⟨hl,hall⟩:=open_fields Tryz.underlying88 h hf;rw [c88] at hl;obtain ⟨m0,z0,h0,f0⟩:=hall 0 9 0 rfl;obtain ⟨m1,z1,h1,f1⟩:=hall 1 86 1 rfl;obtain ⟨m2,z2,h2,f2⟩:=hall 2 9 4 rfl;obtain ⟨s,e0,hs⟩:=read_str Tryz.underlying9 h0 f0;obtain ⟨p,e4,hp⟩:=read_str Tryz.underlying9 h2 f2;obtain ⟨-,hsig⟩:=open_fields Tryz.underlying86 h1 f1;obtain ⟨n0,y0,g0,k0⟩:=hsig 0 35 0 rfl;obtain ⟨n1,y1,g1,k1⟩:=hsig 1 3 1 rfl;obtain ⟨n2,y2,g2,k2⟩:=hsig 2 84 2 rfl;obtain ⟨av,args,e1,ha⟩:=open_ints35 g0 k0;obtain ⟨res,e2,hr⟩:=read_int Tryz.underlying3 g1;obtain ⟨rv,raises,e3,hra⟩:=open_strs84 g2 k2;rw [c9] at e0 e4;rw [c35,c86] at e1;rw [c3,c86] at e2;rw [c84,c86] at e3;have e0:=take_one e0;have e4:=take_one e4;have e1:cs[1]? = some av:=by have:=take_one e1; simpa using this
 have e2:cs[2]? = some (.int .i64 res):=by have:=take_one e2; simpa using this
 have e3:cs[3]? = some rv:=by have:=take_one e3; simpa using this
 refine ⟨⟨s,⟨args,res,raises⟩,p⟩,⟨av,rv,list_of _ hl (fun i v hv=>?_),ha,hra,(wf_i64 hr).1,(wf_i64 hr).2,hs,hp⟩,hl⟩
 match i,hv with
 | 0,hv=>cases hv; exact e0
 | 1,hv=>cases hv; exact e1
 | 2,hv=>cases hv; exact e2
 | 3,hv=>cases hv; exact e3
 | 4,hv=>cases hv; exact e4
theorem open_parts {n:Nat} {cs:List Value} {y:DataW H × List MemPlace} (h:DataW.trod enc Tryz.prog W 0 (fun _=>true) true n 46 cs=some y) (hf:Fits Tryz.prog 46 y.1):∃ v xs,cs=[v]/\Parts W v xs :=
 open_slw IsPart 2 Tryz.underlying46 c83 (by decide) (of_decide_eq_true (by kernel_rfl)) (fun m cs y h hf=>open_part h hf) h hf
theorem open_meths {n:Nat} {cs:List Value} {y:DataW H × List MemPlace} (h:DataW.trod enc Tryz.prog W 0 (fun _=>true) true n 47 cs=some y) (hf:Fits Tryz.prog 47 y.1):∃ v xs,cs=[v]/\Meths W v xs :=
 open_slw IsMeth 5 Tryz.underlying47 c88 (by decide) (of_decide_eq_true (by kernel_rfl)) (fun m cs y h hf=>open_meth h hf) h hf
theorem open_overs {n:Nat} {cs:List Value} {y:DataW H × List MemPlace} (h:DataW.trod enc Tryz.prog W 0 (fun _=>true) true n 48 cs=some y) (hf:Fits Tryz.prog 48 y.1):∃ v xs,cs=[v]/\Overs W v xs :=
 open_slw IsOver 2 Tryz.underlying48 c169 (by decide) (of_decide_eq_true (by kernel_rfl)) (fun m cs y h hf=>open_over h hf) h hf
theorem open_ty {n:Nat} {cs:List Value} {y:DataW H × List MemPlace} (h:DataW.trod enc Tryz.prog W 0 (fun _=>true) true n 50 cs=some y) (hf:Fits Tryz.prog 50 y.1):∃ x,IsTy W x cs/\cs.length=10:=by
 obtain ⟨hl,hall⟩:=open_fields Tryz.underlying50 h hf;rw [c50] at hl;obtain ⟨m0,z0,h0,f0⟩:=hall 0 5 0 rfl;obtain ⟨m1,z1,h1,f1⟩:=hall 1 3 1 rfl;obtain ⟨m2,z2,h2,f2⟩:=hall 2 3 2 rfl;obtain ⟨m3,z3,h3,f3⟩:=hall 3 4 3 rfl;obtain ⟨m4,z4,h4,f4⟩:=hall 4 9 4 rfl;obtain ⟨m5,z5,h5,f5⟩:=hall 5 9 5 rfl;obtain ⟨m6,z6,h6,f6⟩:=hall 6 3 6 rfl;obtain ⟨m7,z7,h7,f7⟩:=hall 7 46 7 rfl;obtain ⟨m8,z8,h8,f8⟩:=hall 8 47 8 rfl;obtain ⟨m9,z9,h9,f9⟩:=hall 9 48 9 rfl;obtain ⟨k,e0,w0⟩:=read_int Tryz.underlying5 h0;obtain ⟨lo,e1,w1⟩:=read_int Tryz.underlying3 h1;obtain ⟨hi,e2,w2⟩:=read_int Tryz.underlying3 h2;obtain ⟨br,e3⟩:=read_bool Tryz.underlying4 h3;obtain ⟨bd,e4,w4⟩:=read_str Tryz.underlying9 h4 f4;obtain ⟨op,e5,w5⟩:=read_str Tryz.underlying9 h5 f5;obtain ⟨su,e6,w6⟩:=read_int Tryz.underlying3 h6;obtain ⟨pv,ps,e7,w7⟩:=open_parts h7 f7;obtain ⟨mv,ms,e8,w8⟩:=open_meths h8 f8;obtain ⟨ov,os,e9,w9⟩:=open_overs h9 f9;rw [c5] at e0;rw [c3] at e1 e2 e6;rw [c4] at e3;rw [c9] at e4 e5;rw [c46] at e7;rw [c47] at e8;rw [c48] at e9;have e0:=take_one e0;have e1:=take_one e1;have e2:=take_one e2;have e3:=take_one e3;have e4:=take_one e4;have e5:=take_one e5;have e6:=take_one e6;have e7:=take_one e7;have e8:=take_one e8;have e9:=take_one e9;refine ⟨⟨k,lo,hi,br,bd,op,su,ps,ms,os⟩,⟨pv,mv,ov,list_of _ hl (fun i v hv=>?_),w7,w8,w9,⟨(wf_u8 w0).1,(wf_u8 w0).2,(wf_i64 w1).1,(wf_i64 w1).2,(wf_i64 w2).1,(wf_i64 w2).2,(wf_i64 w6).1,(wf_i64 w6).2,w4,w5⟩⟩,hl⟩
 match i,hv with
 | 0,hv=>cases hv; exact e0
 | 1,hv=>cases hv; exact e1
 | 2,hv=>cases hv; exact e2
 | 3,hv=>cases hv; exact e3
 | 4,hv=>cases hv; exact e4
 | 5,hv=>cases hv; exact e5
 | 6,hv=>cases hv; exact e6
 | 7,hv=>cases hv; exact e7
 | 8,hv=>cases hv; exact e8
 | 9,hv=>cases hv; exact e9
theorem open_graph {n:Nat} {cs:List Value} {y:DataW H × List MemPlace} (h:DataW.trod enc Tryz.prog W 0 (fun _=>true) true n 23 cs=some y) (hf:Fits Tryz.prog 23 y.1):∃ v g,cs=[v]/\Graph W v g :=
 open_slw IsTy 10 Tryz.underlying23 c50 (by decide) (of_decide_eq_true (by kernel_rfl)) (fun m cs y h hf=>open_ty h hf) h hf
theorem open_reveals {n:Nat} {cs:List Value} {y:DataW H × List MemPlace} (h:DataW.trod enc Tryz.prog W 0 (fun _=>true) true n 24 cs=some y) (hf:Fits Tryz.prog 24 y.1):∃ v rs,cs=[v]/\Reveals W v rs :=
 open_slw IsReveal 3 Tryz.underlying24 c43 (by decide) (of_decide_eq_true (by kernel_rfl)) (fun m cs y h hf=>open_reveal h hf) h hf
end
end
section
open Go.RowKit Go.Proofs Go.Shelf
attribute [local go_sem] Oper.semAt_some
def Hit {n:Nat} (s:IStp) (pre:List (StpG n)):Prop:=∃ y,y∈pre/\y.1.toI=s
theorem StepsW.at {w:World} {a:Option Addr} {n c:Nat} {xs:List IStp} (h:StepsW w (.slice a n c) xs) {i:Nat} (hi:i<n) :
  ∃ b off,a=some ⟨b,off,none⟩/\b<w.heap.size/\w.cell? ⟨b,off+i*3,none⟩=some (.int .u8 (nth xs i).rule)/\w.cell? ⟨b,off+i*3+1,none⟩=some (.int .i64 (nth xs i).to_)/\w.cell? ⟨b,off+i*3+2,none⟩=some (.int .i64 (nth xs i).n) /\
   -9223372036854775808<=(nth xs i).to_/\(nth xs i).to_<=9223372036854775807:=by
 obtain ⟨b,off,cs,ha,⟨rfl,h1⟩,_,hc⟩:=SlW.at h hi;have h0:=hc 0 _ rfl;have h2:=hc 1 _ rfl;have h3:=hc 2 _ rfl;simp only [Nat.add_zero] at h0;exact ⟨b,off,ha,cell_lt h0,h0,h2,h3,h1.2.2.1,h1.2.2.2.1⟩
end
section
def mark (S:Nat->Bool) (u:Nat):Nat->Bool:=fun i=>i==u||S i
def unseen (n:Nat) (S:Nat->Bool):Nat:=((List.range n).filter fun i=>!S i).length
theorem unseen_mark {n:Nat} {S:Nat->Bool} {u:Nat} (hu:u<n) (h:S u=false):unseen n (mark S u)<unseen n S:=by
 unfold unseen;refine filter_lt _ (fun i _ hi=>?_) ⟨u,List.mem_range.2 hu,by rw [h]; rfl,by simp [mark]⟩;unfold mark at hi;cases hs:S i
 ·rfl
 ·rw [hs] at hi; simp at hi
theorem unseen_le (n:Nat) (S:Nat->Bool):unseen n S<=n:=by
 have:=List.length_filter_le (fun i=>!S i) (List.range n)
 simpa [unseen] using this
structure WInv (n:Nat) (succ:Nat->List Nat) (a:Nat) (S:Nat->Bool) (Q:List Nat):Prop where
 way:∀ u,u<n->S u=true->Way succ a u
 que:∀ x,x∈Q->x<n/\(x=a\/S x=true)
 cls:∀ x,(x=a\/(x<n/\S x=true))->x∈Q\/∀ y,y<n->y∈succ x->S y=true
structure LInv (n:Nat) (succ:Nat->List Nat) (a x b:Nat) (S:Nat->Bool) (Q:List Nat):Prop where
 way:∀ u,u<n->S u=true->Way succ a u
 que:∀ z,z∈Q->z<n/\(z=a\/S z=true)
 cls:∀ z,(z=a\/(z<n/\S z=true))->z∈Q\/z=x\/∀ y,y<n->y∈succ z->S y=true
 done:∀ y,y<b->y∈succ x->S y=true
theorem WInv.start {n a:Nat} {succ:Nat->List Nat} (ha:a<n):WInv n succ a (fun _=>false) [a] :=
 ⟨fun _ _ h=>(by cases h),fun x hx=>by rw [List.mem_singleton] at hx; subst hx; exact ⟨ha,Or.inl rfl⟩,fun x hx=>by
  rcases hx with rfl | ⟨_,h⟩
  ·exact Or.inl (by simp)
  ·cases h⟩
theorem LInv.all {n a x:Nat} {succ:Nat->List Nat} {S:Nat->Bool} {Q:List Nat} (h:LInv n succ a x n S Q):WInv n succ a S Q :=
 ⟨h.way,h.que,fun z hz=>by
  rcases h.cls z hz with h1 | rfl | h1
  ·exact Or.inl h1
  ·exact Or.inr h.done
  ·exact Or.inr h1⟩
theorem LInv.skip {n a x b:Nat} {succ:Nat->List Nat} {S:Nat->Bool} {Q:List Nat} (h:LInv n succ a x b S Q) (hb:b∈succ x->S b=true):LInv n succ a x (b+1) S Q :=
 ⟨h.way,h.que,h.cls,fun y hy hm=>by
  by_cases e:y=b
  ·subst e; exact hb hm
  ·exact h.done y (by omega) hm⟩
theorem LInv.push {n a x b:Nat} {succ:Nat->List Nat} {S:Nat->Bool} {Q:List Nat} (h:LInv n succ a x b S Q) (hx:x=a\/(x<n/\S x=true)) (hbn:b<n) (hb:b∈succ x):LInv n succ a x (b+1) (mark S b) (Q++[b]):=by
 have hm:∀ u,S u=true->mark S b u=true:=fun u hu=>by unfold mark; rw [hu]; simp
 have hself:mark S b b=true:=by simp [mark]
 have hway:Way succ a b:=by
  rcases hx with rfl | ⟨h1,h2⟩
  ·exact .one hb
  ·exact (h.way x h1 h2).step hb
 refine ⟨fun u hu hs=>?_,fun z hz=>?_,fun z hz=>?_,fun y hy hmem=>?_⟩
 ·by_cases e:u=b
  ·subst e; exact hway
  ·refine h.way u hu ?_;unfold mark at hs;rw [beq_eq_false_iff_ne.2 e] at hs
   simpa using hs
 ·rcases List.mem_append.1 hz with hz | hz
  ·exact ⟨(h.que z hz).1,(h.que z hz).2.imp id (hm z)⟩
  ·rw [List.mem_singleton] at hz;subst hz; exact ⟨hbn,Or.inr hself⟩
 ·by_cases e:z=b
  ·subst e; exact Or.inl (by simp)
  ·have hz':z=a\/(z<n/\S z=true):=hz.imp id fun ⟨h1,h2⟩=>⟨h1,by
    unfold mark at h2;rw [beq_eq_false_iff_ne.2 e] at h2
    simpa using h2⟩
   rcases h.cls z hz' with h1 | h1 | h1
   ·exact Or.inl (List.mem_append_left _ h1)
   ·exact Or.inr (Or.inl h1)
   ·exact Or.inr (Or.inr fun y hy hmem=>hm y (h1 y hy hmem))
 ·by_cases e:y=b
  ·subst e; exact hself
  ·exact hm y (h.done y (by omega) hmem)
theorem WInv.done {n a:Nat} {succ:Nat->List Nat} {S:Nat->Bool} (hs:∀ x,x<n->∀ u,u∈succ x->u<n) (ha:a<n) (h:WInv n succ a S []) {u:Nat} (hu:u<n):S u=true↔Way succ a u:=by
 constructor
 ·exact h.way u hu
 ·intro hw;have:∀ z,Way succ a z->z<n/\S z=true:=fun z hz=>by
   induction hz with
   | one hb =>
    have hlt:=hs a ha _ hb;rcases h.cls a (Or.inl rfl) with h1 | h1
    ·cases h1
    ·exact ⟨hlt,h1 _ hlt hb⟩
   | step _ hc ih =>
    have hlt:=hs _ ih.1 _ hc;rcases h.cls _ (Or.inr ih) with h1 | h1
    ·cases h1
    ·exact ⟨hlt,h1 _ hlt hc⟩
  exact (this u hw).2
end
section
open Go.RowKit Go.Proofs
end
section
open Go.RowKit Go.Proofs Go.Shelf
end
section
open Go.RowKit Go.Proofs
def bRow (n:Nat) (f:Nat->Bool):Array Value:=((List.range n).map fun j=>Value.bool (f j)).toArray
theorem bRow_at {n j:Nat} (f:Nat->Bool) (h:j<n):(bRow n f)[j]? = some (.bool (f j)):=by simp [bRow,h]
def RowT (w:World) (b n:Nat) (f:Nat->Bool):Prop:=w.heap[b]? = some (.cells (bRow n f) 4 (0,0))
theorem RowT.ext {w w':World} {b n:Nat} {f:Nat->Bool} (h:RowT w b n f) (hE:Ext w w'):RowT w' b n f:=(hE.block b (row_lt h)).trans h
theorem RowT.cell {w:World} {b n:Nat} {f:Nat->Bool} (h:RowT w b n f) {j:Nat} (hj:j<n):w.cell? ⟨b,j,none⟩=some (.bool (f j)):=row_cell h (bRow_at f hj)
theorem RowT.free {w:World} {b n:Nat} {f:Nat->Bool} (h:RowT w b n f) (j:Nat):w.frozen? ⟨b,j,none⟩=false:=row_free h j
theorem RowT.set {w:World} {b n:Nat} {f:Nat->Bool} (h:RowT w b n f) (j:Nat):RowT (w.setCell ⟨b,j,none⟩ (.bool true)) b n (mark f j):=by
 have:=row_set (j:=j) (v:=.bool true) h;unfold RowT;rw [this]
 congr 2
 unfold bRow mark;apply Array.ext
 ·simp
 ·intro i h1 h2;simp only [List.setIfInBounds_toArray,List.getElem_toArray,List.getElem_set,List.getElem_map,List.getElem_range];by_cases hij:i=j
  ·subst hij; simp
  ·rw [if_neg (fun e=>hij e.symm)];simp [beq_eq_false_iff_ne.2 hij]
theorem RowT.new (w:World) (n:Nat) (f:Nat->Bool):RowT (w.alloc (.cells (bRow n f) 4)) w.heap.size n f:=heap_alloc_new w _
def tRow (n k:Nat) (rb:Nat->Nat):Array Value:=((List.range n).map fun i=>if i<k then Value.slice (some ⟨rb i,0,none⟩) n n else .slice none 0 0).toArray
theorem infoB:(Tryz.prog.info? 4).map (fun i=>(i.zero,i.size,i.bytes))=some (some (.bool false),1,1):=by kernel_rfl
theorem makeRowT (n:Nat) (hn:n<=400) (w:World):(Instr.makeSlice 64 (.int .i64 n) (.int .i64 n)).run Tryz.prog w=.ok (.slice (some ⟨w.heap.size,0,none⟩) n n) (w.alloc (.cells (bRow n fun _=>false) 4)):=by
 obtain ⟨i0,hi,hz0,hz1,hz2⟩:=info_parts infoB;have:=run_make (P:=Tryz.prog) w 64 4 i0 (.bool false) Tryz.underlying64 hi hz0 .i64 .i64 n n (by omega) (Int.le_refl _) (by rw [hz2]; omega) (by omega);have hm:madeCells #[.bool false] n=bRow n fun _=>false:=by
  unfold madeCells bRow;apply Array.ext
  ·simp
  ·intro i h1 h2;simp [Nat.mod_one]
 rw [this,hz1];simp [Value.cells,hm]
structure Mat (w wr:World) (t n k:Nat) (rb:Nat->Nat) (F:Nat->Nat->Bool):Prop where
 ext:Ext w wr
 tab:wr.heap[t]? = some (.cells (tRow n k rb) 64 (0,0))
 lo:w.heap.size<=t
 row:∀ i,i<k->RowT wr (rb i) n (F i)
 rlo:∀ i,i<k->w.heap.size<=rb i
 inj:∀ i j,i<k->j<k->rb i=rb j->i=j
section
variable {w wr:World} {t n k:Nat} {rb:Nat->Nat} {F:Nat->Nat->Bool}
theorem Mat.new (h:Ext w wr) (n:Nat) (rb:Nat->Nat) (F:Nat->Nat->Bool):Mat w (wr.alloc (.cells (tRow n 0 fun _=>0) 64)) wr.heap.size n 0 rb F:=by
 refine ⟨h.trans (Ext.alloc _ _),?_,h.size,fun i hi=>absurd hi (Nat.not_lt_zero _),fun i hi=>absurd hi (Nat.not_lt_zero _),fun i j hi=>absurd hi (Nat.not_lt_zero _)⟩;have:tRow n 0 (fun _=>0)=tRow n 0 rb:=by simp [tRow]
 rw [this];exact heap_alloc_new _ _
theorem Mat.other {w2:World} (h:Mat w wr t n k rb F) (hE:Ext w w2) (hs:∀ j,(j=t\/∃ i,i<k/\j=rb i)->w2.heap[j]? = wr.heap[j]?):Mat w w2 t n k rb F :=
 ⟨hE,(hs t (Or.inl rfl)).trans h.tab,h.lo,fun i hi=>(hs _ (Or.inr ⟨i,hi,rfl⟩)).trans (h.row i hi),h.rlo,h.inj⟩
theorem Mat.mono {w2:World} (h:Mat w wr t n k rb F) (hE:Ext wr w2):Mat w w2 t n k rb F :=
 h.other (h.ext.trans hE) (fun j hj=>hE.block j (by rcases hj with rfl | ⟨i,hi,rfl⟩; exact row_lt h.tab; exact row_lt (h.row i hi)))
theorem Mat.net (h:Mat w wr t n k rb F) {i:Nat} (hi:i<k):rb i≠t:=fun e=>by
 have h1:=h.row i hi;unfold RowT at h1;rw [e,h.tab] at h1;injection h1 with h1
 injection h1 with _ h1 _
 cases h1
theorem Mat.add (h:Mat w wr t n k rb F) (hk:k<n) :
  Mat w ((wr.alloc (.cells (bRow n fun _=>false) 4)).setCell ⟨t,k,none⟩ (.slice (some ⟨wr.heap.size,0,none⟩) n n)) t n (k+1) (fun i=>if i=k then wr.heap.size else rb i) (fun i=>if i=k then fun _=>false else F i):=by
 have h1:=h.mono (Ext.alloc wr (.cells (bRow n fun _=>false) 4));have ht:t<wr.heap.size:=row_lt h.tab;refine ⟨Below.setCell h1.ext h.lo _,?_,h.lo,fun i hi=>?_,fun i hi=>?_,fun i j hi hj e=>?_⟩
 ·have:=row_set (j:=k) (v:=.slice (some ⟨wr.heap.size,0,none⟩) n n) h1.tab;rw [this]
  congr 2
  unfold tRow;apply Array.ext
  ·simp
  ·intro i h1 h2;simp only [List.setIfInBounds_toArray,List.getElem_toArray,List.getElem_set,List.getElem_map,List.getElem_range];by_cases hij:i=k
   ·subst hij; simp
   ·rw [if_neg (fun e=>hij e.symm),if_neg hij];by_cases hik:i<k
    ·rw [if_pos hik,if_pos (by omega)]
    ·rw [if_neg hik,if_neg (by omega)]
 ·by_cases e:i=k
  ·simp only [e,if_true];exact (Below.heap_setCell _ _ _ _ (by show wr.heap.size≠t; omega)).trans (RowT.new wr n _)
  ·simp only [if_neg e];exact (Below.heap_setCell _ _ _ _ (h.net (show i<k by omega))).trans (h1.row i (by omega))
 ·by_cases e:i=k
  ·simp only [e,if_true]; exact h.ext.size
  ·simp only [if_neg e]; exact h.rlo i (by omega)
 ·have hlt:∀ i,i<k->rb i<wr.heap.size:=fun i hi=>row_lt (h.row i hi);by_cases e1:i=k
  ·by_cases e2:j=k
   ·omega
   ·simp only [e1,if_true,if_neg e2] at e;have:=hlt j (by omega); omega
  ·by_cases e2:j=k
   ·simp only [e2,if_true,if_neg e1] at e;have:=hlt i (by omega); omega
   ·simp only [if_neg e1,if_neg e2] at e;exact h.inj i j (by omega) (by omega) e
theorem Mat.set (h:Mat w wr t n k rb F) {x:Nat} (hx:x<k) (y:Nat):Mat w (wr.setCell ⟨rb x,y,none⟩ (.bool true)) t n k rb (fun i=>if i=x then mark (F x) y else F i):=by
 refine ⟨Below.setCell h.ext (h.rlo x hx) _,(Below.heap_setCell _ _ _ _ (fun e=>h.net hx e.symm)).trans h.tab,h.lo,fun i hi=>?_,h.rlo,h.inj⟩;by_cases e:i=x
 ·subst e;simp only [if_true];exact (h.row i hi).set y
 ·simp only [if_neg e];exact (Below.heap_setCell _ _ _ _ (fun e2=>e (h.inj i x hi hx e2))).trans (h.row i hi)
end
structure Bfs (w wr:World) (t n:Nat) (rb:Nat->Nat) (F:Nat->Nat->Bool) (sb:Nat) (S:Nat->Bool) (v:Value) (Q:List Nat):Prop where
 mat:Mat w wr t n n rb F
 seen:RowT wr sb n S
 slo:w.heap.size<=sb
 sne:∀ i,i<n->rb i≠sb
 que:Tail wr w.heap.size v Q
section
variable {w wr:World} {t n:Nat} {rb:Nat->Nat} {F:Nat->Nat->Bool} {sb:Nat} {S:Nat->Bool} {v:Value} {Q:List Nat}
theorem Bfs.net (h:Bfs w wr t n rb F sb S v Q):t≠sb:=fun e=>by
 have h1:=h.seen;unfold RowT at h1;rw [<- e,h.mat.tab] at h1;injection h1 with h1
 injection h1 with _ h1 _
 cases h1
theorem Bfs.mono {w2:World} (h:Bfs w wr t n rb F sb S v Q) (hE:Ext wr w2):Bfs w w2 t n rb F sb S v Q:=⟨h.mat.mono hE,h.seen.ext hE,h.slo,h.sne,h.que.ext hE⟩
theorem Bfs.mark (h:Bfs w wr t n rb F sb S v Q) (u:Nat):Bfs w (wr.setCell ⟨sb,u,none⟩ (.bool true)) t n rb F sb (mark S u) v Q :=
 ⟨h.mat.other (Below.setCell h.mat.ext h.slo _) (fun j hj=>Below.heap_setCell _ _ _ _ (by rcases hj with rfl | ⟨i,hi,rfl⟩; exact h.net; exact h.sne i hi)),h.seen.set u,h.slo,h.sne,h.que.setOther h.seen (by decide)⟩
theorem Bfs.push {w2:World} {v':Value} {Q':List Nat} {g:Nat} {cur:Array Value} (h:Bfs w wr t n rb F sb S v Q) (hg:wr.grownBy w2 (some g)) (hgb:w.heap.size<=g) (hc:wr.heap[g]? = some (.cells cur 3 (0,0))) (hT:Tail w2 w.heap.size v' Q') :
  Bfs w w2 t n rb F sb S v' Q':=by
 have hne:∀ (j:Nat) (cs:Array Value) (T:TypeId),wr.heap[j]? = some (.cells cs T (0,0))->T≠3->some j≠some g:=fun j cs T hj hT e=>by
  cases e;rw [hc] at hj;injection hj with hj
  injection hj with _ hj _
  exact hT hj.symm
 exact ⟨h.mat.other (h.mat.ext.grown hg h.mat.ext.size (fun q e=>by cases e; exact hgb)) (fun j hj=>by
   rcases hj with rfl | ⟨i,hi,rfl⟩
   ·exact hg.block _ (row_lt h.mat.tab) (hne _ _ _ h.mat.tab (by decide))
   ·exact hg.block _ (row_lt (h.mat.row i hi)) (hne _ _ _ (h.mat.row i hi) (by decide))),
  (hg.block _ (row_lt h.seen) (hne _ _ _ h.seen (by decide))).trans h.seen,h.slo,h.sne,hT⟩
theorem Bfs.start (h:Mat w wr t n n rb F) (a:Nat):Bfs w ((wr.alloc (.cells (bRow n fun _=>false) 4)).alloc (.cells #[.int .i64 a] 3)) t n rb F wr.heap.size (fun _=>false) (.slice (some ⟨wr.heap.size+1,0,none⟩) 1 1) [a] :=
 ⟨(h.mono (Ext.alloc _ _)).mono (Ext.alloc _ _),(RowT.new wr n _).ext (Ext.alloc _ _),h.ext.size,fun i hi=>by have:=row_lt (h.row i hi); omega,
  ⟨wr.heap.size+1,0,1,_,rfl,by have:=h.ext.size; omega,heap_alloc2 _ _ _,by simp,by unfold maxLen; omega,Or.inr ⟨by simp,by simp⟩,fun i x hx=>by
   match i,hx with
   | 0,hx=>simp at hx; subst hx; simp⟩⟩
end
end
section
open Go.RowKit Go.Proofs
end
end Go.Proofs.YtjffkeoajkhbmaaGreat
