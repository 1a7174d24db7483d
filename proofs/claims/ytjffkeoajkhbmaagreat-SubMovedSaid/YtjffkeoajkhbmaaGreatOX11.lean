/- An environment in memory, and what is asked of it. The world with some blocks out of sight: what is told of it stands when those blocks are written. What is reached by steps, and the search that finds it: in plain Lean. The search for circles, in plain Lean. sub.list, Above, Join. -/
import Derived.Test.YtjffkeoajkhbmaaGreatOX1
import Derived.Test.YtjffkeoajkhbmaaGreatOX8
import Derived.Test.YtjffkeoajkhbmaaGreatOX10
namespace Go.Proofs.YtjffkeoajkhbmaaGreat
set_option linter.unusedSimpArgs false
set_option linter.unusedVariables false
set_option maxRecDepth 100000
set_option maxHeartbeats 8000000
section
open Go.RowKit Go.Proofs
def IsBits (_:World) (s:Nat) (cs:List Value):Prop:=cs=(List.range 7).map fun j=>Value.int .u64 (wordOf s j:Nat)
abbrev BitsW:=SlW IsBits 7
theorem BitsW.mono {w w':World} {v:Value} {xs:List Nat} (hE:Ext w w') (h:BitsW w v xs):BitsW w' v xs:=SlW.mono (w:=w) (fun _ _ h=>h) hE h
theorem BitsW.at {w:World} {a:Option Addr} {n c:Nat} {xs:List Nat} (h:BitsW w (.slice a n c) xs) {i:Nat} (hi:i<n) :
  ∃ b off,a=some ⟨b,off,none⟩/\b<w.heap.size/\BitsAt w b (off+i*7) (nth xs i):=by
 obtain ⟨b,off,cs,ha,hcs,_,hc⟩:=SlW.at h hi;have hb:BitsAt w b (off+i*7) (nth xs i):=fun j hj=>hc j _ (by rw [hcs]; simp [hj]);exact ⟨b,off,ha,cell_lt (hb 0 (by decide)),hb⟩
structure EnvW (w:World) (vb:Nat) (g:List Ty) (C:Nat->Nat) (rs:List Reveal) (S:List Nat) (gv cv rv av:Value):Prop where
 c0:w.cell? ⟨vb,0,none⟩=some gv
 c1:w.cell? ⟨vb,1,none⟩=some cv
 c2:w.cell? ⟨vb,2,none⟩=some rv
 c4:w.cell? ⟨vb,4,none⟩=some av
 gr:Graph w gv g
 cl:Ints w cv ((List.range g.length).map fun i=>(C i:Int))
 re:Reveals w rv rs
 ab:BitsW w av S
theorem EnvW.mono {w w':World} {vb:Nat} {g:List Ty} {C:Nat->Nat} {rs:List Reveal} {S:List Nat} {gv cv rv av:Value} (hE:Ext w w') (h:EnvW w vb g C rs S gv cv rv av):EnvW w' vb g C rs S gv cv rv av :=
 ⟨hE.cell h.c0,hE.cell h.c1,hE.cell h.c2,hE.cell h.c4,Graph.mono hE h.gr,Ints.mono hE h.cl,Reveals.mono hE h.re,BitsW.mono hE h.ab⟩
theorem in81 (a b c:Int) (w:World):Calls Tryz.prog 81 #[.int .i64 a,.int .i64 b,.int .i64 c] w fun e w'=>e=.returned (.bool (decide (b<=a)&&decide (a<=c)))/\w'=w:=by
 go_enter Tryz.func81,Tryz.ntmps81
 go_wp2
 all_goals go_ret
 all_goals refine ⟨ret_bool (Bool.eq_iff_iff.2 ?_),rfl⟩
 all_goals simp
 all_goals omega
theorem asked80 (i:Int) (b2 vb:Nat) (w:World) (hb:w.cell? ⟨b2,0,none⟩=some (.pointer (some ⟨vb,0,none⟩))) (ga:Option Addr) (n gc:Nat) (hn:n<=400) (h0:w.cell? ⟨vb,0,none⟩=some (.slice ga n gc)) :
  Calls Tryz.prog 80 #[.int .i64 i,.pointer (some ⟨b2,0,none⟩)] w fun e w'=>e=.returned (.bool (!hasI n i))/\Ext w w':=by
 have hs:=dh (show (!(decide (0<=i)&&decide (i<=(n:Int)-1)))=!hasI n i by
  congr 1; unfold hasI; congr 1; rw [Bool.eq_iff_iff]; simp; omega)
 go_enter Tryz.func80,Tryz.ntmps80
 go_wp2_with fail;refine (in81 _ _ _ _).mono ?_;rintro e w2 ⟨rfl,rfl⟩;go_wp2_with fail;go_ret;exact ⟨ret_bool (by rw [<- hs.out,Bool.not_and]),Ext.refl _⟩
theorem enters80:Enters Tryz.prog 80:=enters_of Tryz.func80 (by kernel_rfl) rfl
def askedR (n:Nat) (l:List Int):Int:=if l.any fun i=>!hasI n i then 1 else 0
theorem asked47 (vb:Nat) (ga:Option Addr) (n gc:Nat) (hn:n<=400) (a:Option Addr) (m c:Nat) (l:List Int) (w:World) (h0:w.cell? ⟨vb,0,none⟩=some (.slice ga n gc)) (hl:Ints w (.slice a m c) l) :
  Calls Tryz.prog 47 #[.pointer (some ⟨vb,0,none⟩),.slice a m c] w fun e w'=>e=.returned (.int .i64 (askedR n l))/\Ext w w':=by
 have hbd:=(SlW.bound hl).2;obtain rfl:=SlW.len hl;have hany:=any_range l (fun i=>!hasI n i);have hE0:=Ext.alloc w (.cells #[.pointer (some ⟨vb,0,none⟩)] 28);have hcall:=dh (containsFunc52_p 80 enters80 #[.pointer (some ⟨w.heap.size,0,none⟩)] a l.length c (by omega) (fun k _=>.int .i64 (nth l k)) (w.alloc (.cells #[.pointer (some ⟨vb,0,none⟩)] 28)) (fun k=>!hasI n (nth l k))
  (fun w2 hE2 i hi=>by obtain ⟨b,off,ha,_,hc,_⟩:=Ints.at (Ints.mono (hE0.trans hE2) hl) hi; exact ⟨b,off,ha,hc⟩)
  (fun k w2 hk hE2=>asked80 _ _ vb w2 (hE2.cell (cell_new1 _ _ _)) ga n gc hn ((hE0.trans hE2).cell h0)))
 have HE0:=dh hE0; clear hE0 hl;cases hv:(List.range l.length).any fun k=>!hasI n (nth l k)
 ·rw [hv] at hany hcall;have Hs:=dh (show askedR n l=0 by unfold askedR; rw [<- hany]; rfl);clear hv hany
  go_enter Tryz.func47,Tryz.ntmps47
  go_wp2_with fail;refine hcall.out.mono ?_;rintro e w1 ⟨rfl,hE⟩;have HE:=dh (HE0.out.trans hE); clear hE;go_wp2_with fail;go_ret;exact ⟨by rw [Hs.out]; rfl,HE.out⟩
 ·rw [hv] at hany hcall;have Hs:=dh (show askedR n l=1 by unfold askedR; rw [<- hany]; rfl);clear hv hany
  go_enter Tryz.func47,Tryz.ntmps47
  go_wp2_with fail;refine hcall.out.mono ?_;rintro e w1 ⟨rfl,hE⟩;have HE:=dh (HE0.out.trans hE); clear hE;go_wp2_with fail;go_ret;exact ⟨by rw [Hs.out]; rfl,HE.out⟩
theorem askedR_cases (n:Nat) (l:List Int):(askedR n l=0/\∀ i,i∈l->0<=i/\i<n)\/(askedR n l=1/\∃ i,i∈l/\hasI n i=false):=by
 unfold askedR;cases h:l.any fun i=>!hasI n i
 ·refine Or.inl ⟨rfl,fun i hi=>?_⟩;rw [List.any_eq_false] at h;have:=h i hi;simp at this;exact hasI_iff.1 this
 ·refine Or.inr ⟨rfl,?_⟩;rw [List.any_eq_true] at h;obtain ⟨i,hi,h⟩:=h;exact ⟨i,hi,by simpa using h⟩
def belowR (n:Nat) (S:List Nat) (a b:Int):Bool × Int:=if askedR n [a,b]=0 then ((nth S a.toNat).testBit b.toNat,0) else (false,1)
theorem below17 (vb:Nat) (g:List Ty) (C:Nat->Nat) (rs:List Reveal) (S:List Nat) (gv cv rv av:Value) (hn:g.length<=400) (hS:S.length=g.length) (a b:Int) (w:World) (hv:EnvW w vb g C rs S gv cv rv av)
  (hx:-9223372036854775808<=a/\a<=9223372036854775807) (hy:-9223372036854775808<=b/\b<=9223372036854775807) :
  Calls Tryz.prog 17 #[.pointer (some ⟨vb,0,none⟩),.int .i64 a,.int .i64 b] w fun e w'=>e=.returned (.tuple #[.bool (belowR g.length S a b).1,.int .i64 (belowR g.length S a b).2])/\Ext w w':=by
 have hE0:=Ext.alloc w (.cells #[.int .i64 a,.int .i64 b] 3);have hl:=ints_two w a b hx hy;obtain ⟨ga,gc,rfl,_⟩:=id hv.gr;have hcall:=dh (asked47 vb ga g.length gc hn _ 2 2 [a,b] _ (hE0.cell hv.c0) hl);have HE0:=dh hE0; clear hE0 hl;have Hv:=dh hv; clear hv;rcases askedR_cases g.length [a,b] with ⟨h0,hin⟩ | ⟨h0,_⟩
 ·rw [h0] at hcall;have h1:=hin a (by simp);have h2:=hin b (by simp);obtain ⟨an,rfl⟩:∃ an:Nat,a=an:=⟨a.toNat,(Int.toNat_of_nonneg h1.1).symm⟩;obtain ⟨bn,rfl⟩:∃ bn:Nat,b=bn:=⟨b.toNat,(Int.toNat_of_nonneg h2.1).symm⟩;have Hs:=dh (show belowR g.length S an bn=((nth S an).testBit bn,0) by unfold belowR; rw [if_pos h0]; simp);have hal:an<S.length:=by omega
  have hbl:bn<448:=by omega
  clear h0 hin h1 h2 hS
  go_enter Tryz.func17,Tryz.ntmps17
  go_wp2_with fail;refine hcall.out.mono ?_;rintro e w1 ⟨rfl,hE⟩;have hv1:=EnvW.mono (HE0.out.trans hE) Hv.out;have HE:=dh (HE0.out.trans hE); clear hE;have c4:=hv1.c4;have hab:=hv1.ab;obtain ⟨aa,ac,rfl,_⟩:=id hab;obtain ⟨sb,so,rfl,hsl,hbits⟩:=BitsW.at hab hal;have hbd:=(SlW.bound hab).2;have Hbits:=dh hbits;clear hv1 hab hbits;go_wp2_with fail;refine (has48 _ _ _ _ hbl _ Hbits.out).mono ?_;rintro e w2 ⟨rfl,rfl⟩;go_wp2_with fail;go_ret2;exact ⟨by rw [Hs.out]; rfl,HE.out⟩
 ·rw [h0] at hcall;have Hs:=dh (show belowR g.length S a b=(false,1) by unfold belowR; rw [if_neg (by rw [h0]; decide)]);clear h0
  go_enter Tryz.func17,Tryz.ntmps17
  go_wp2_with fail;refine hcall.out.mono ?_;rintro e w1 ⟨rfl,hE⟩;have HE:=dh (HE0.out.trans hE); clear hE;go_wp2_with fail;go_ret2;exact ⟨by rw [Hs.out]; rfl,HE.out⟩
end
section
open Go.RowKit Go.Proofs
def only (w:World) (p:Nat->Bool):World:={ w with heap:=w.heap.mapIdx fun j o=>if p j then o else Obj.map #[] 0 }
theorem only_get (w:World) (p:Nat->Bool) (j:Nat):(only w p).heap[j]? = (w.heap[j]?).map fun o=>if p j then o else Obj.map #[] 0:=by simp [only]
theorem only_see {w:World} {p:Nat->Bool} {j:Nat} (h:p j=true):(only w p).heap[j]? = w.heap[j]? := by
 rw [only_get]; simp [h]
theorem only_cell {w:World} {p:Nat->Bool} {a:Addr} {v:Value} (h:(only w p).cell? a=some v):w.cell? a=some v/\p a.block=true:=by
 cases hp:p a.block
 ·unfold World.cell? at h;rw [only_get,hp] at h;cases hb:w.heap[a.block]? <;> simp [hb] at h
 ·exact ⟨(World.cell?_of_block (w:=w) (w':=only w p) (only_see hp)).symm.trans h,rfl⟩
theorem cell_only {w:World} {p:Nat->Bool} {a:Addr} {v:Value} (hp:p a.block=true) (h:w.cell? a=some v):(only w p).cell? a=some v :=
 (World.cell?_of_block (w:=w) (w':=only w p) (only_see hp)).trans h
def CellLe (w w':World):Prop:=∀ a v,w.cell? a=some v->w'.cell? a=some v
theorem CellLe.trans {a b c:World} (h:CellLe a b) (k:CellLe b c):CellLe a c:=fun x v hx=>k x v (h x v hx)
theorem Ext.le {w w':World} (h:Ext w w'):CellLe w w':=fun _ _ hc=>h.cell hc
theorem only_le (w:World) (p:Nat->Bool):CellLe (only w p) w:=fun _ _ h=>(only_cell h).1
theorem only_only {w:World} {p q:Nat->Bool} (h:∀ j,p j=true->q j=true):CellLe (only w p) (only w q):=fun _ _ hc=>cell_only (h _ (only_cell hc).2) (only_cell hc).1
theorem only_grown {w w':World} {b:Option Nat} {p:Nat->Bool} (hg:w.grownBy w' b) (hb:∀ k,b=some k->p k=false):CellLe (only w p) (only w' p):=fun a v hc=>by
 obtain ⟨h1,h2⟩:=only_cell hc;refine cell_only h2 ((World.cell?_of_block (w:=w) (w':=w') (hg.block a.block (cell_lt h1) (fun e=>?_))).trans h1);rw [hb _ e.symm] at h2; cases h2
theorem Ext.only {w w':World} (h:Ext w w') (p:Nat->Bool):CellLe (only w p) (only w' p):=only_grown (b:=none) ⟨h.os,h.tape,h.output,h.size,fun j hj _=>h.block j hj⟩ (fun _ e=>by cases e)
theorem SlW.le {α:Type} {R:World->α->List Value->Prop} {sz:Nat} {w w':World} {v:Value} {xs:List α} (hR:∀ x cs,R w x cs->R w' x cs) (hE:CellLe w w') (h:SlW R sz w v xs):SlW R sz w' v xs:=by
 obtain ⟨a,c,hv,hl,hc,hx⟩:=h;refine ⟨a,c,hv,hl,hc,fun i x hi=>?_⟩;obtain ⟨b,off,cs,ha,hr,hlen,hcell⟩:=hx i x hi;exact ⟨b,off,cs,ha,hR x cs hr,hlen,fun j u hu=>hE _ _ (hcell j u hu)⟩
theorem Ints.le {w w':World} {v:Value} {xs:List Int} (hE:CellLe w w') (h:Ints w v xs):Ints w' v xs:=SlW.le (w:=w) (fun _ _ h=>h) hE h
theorem Strs.le {w w':World} {v:Value} {xs:List BA} (hE:CellLe w w') (h:Strs w v xs):Strs w' v xs:=SlW.le (w:=w) (fun _ _ h=>h) hE h
theorem Parts.le {w w':World} {v:Value} {xs:List Part} (hE:CellLe w w') (h:Parts w v xs):Parts w' v xs:=SlW.le (w:=w) (fun _ _ h=>h) hE h
theorem Overs.le {w w':World} {v:Value} {xs:List Over} (hE:CellLe w w') (h:Overs w v xs):Overs w' v xs:=SlW.le (w:=w) (fun _ _ h=>h) hE h
theorem Reveals.le {w w':World} {v:Value} {xs:List Reveal} (hE:CellLe w w') (h:Reveals w v xs):Reveals w' v xs:=SlW.le (w:=w) (fun _ _ h=>h) hE h
theorem BitsW.le {w w':World} {v:Value} {xs:List Nat} (hE:CellLe w w') (h:BitsW w v xs):BitsW w' v xs:=SlW.le (w:=w) (fun _ _ h=>h) hE h
theorem IsMeth.le {w w':World} {m:Meth} {cs:List Value} (hE:CellLe w w') (h:IsMeth w m cs):IsMeth w' m cs :=
 let ⟨av,rv,e,h1,h2,h3⟩:=h
 ⟨av,rv,e,Ints.le hE h1,Strs.le hE h2,h3⟩
theorem Meths.le {w w':World} {v:Value} {xs:List Meth} (hE:CellLe w w') (h:Meths w v xs):Meths w' v xs:=SlW.le (fun _ _ h=>IsMeth.le hE h) hE h
theorem IsTy.le {w w':World} {t:Ty} {cs:List Value} (hE:CellLe w w') (h:IsTy w t cs):IsTy w' t cs :=
 let ⟨pv,mv,ov,e,h1,h2,h3,h4⟩:=h
 ⟨pv,mv,ov,e,Parts.le hE h1,Meths.le hE h2,Overs.le hE h3,h4⟩
theorem Graph.le {w w':World} {v:Value} {xs:List Ty} (hE:CellLe w w') (h:Graph w v xs):Graph w' v xs:=SlW.le (fun _ _ h=>IsTy.le hE h) hE h
def RowOf {α:Type} (R:α->List Value->Prop) (sz:Nat) (cur:Array Value) (xs:List α):Prop :=
 ∀ i x,xs[i]? = some x->∃ cs,R x cs/\cs.length=sz/\∀ j u,cs[j]? = some u->cur[i*sz+j]? = some u
theorem RowOf.slice {α:Type} {R:World->α->List Value->Prop} {sz:Nat} {w:World} {b:Nat} {T:TypeId} {cur:Array Value} {xs:List α} {c:Nat} (h:RowOf (R w) sz cur xs) (hb:w.heap[b]? = some (.cells cur T (0,0))) (hc:xs.length<=c)
  (hm:xs.length*(8*sz)<=maxBytes):SlW R sz w (.slice (some ⟨b,0,none⟩) xs.length c) xs:=by
 refine ⟨_,c,rfl,hc,hm,fun i x hi=>?_⟩;obtain ⟨cs,hr,hl,hx⟩:=h i x hi;refine ⟨b,0,cs,rfl,hr,hl,fun j u hu=>?_⟩;unfold World.cell?;rw [show w.heap[(⟨b,0+i*sz+j,none⟩:Addr).block]? = some (.cells cur T (0,0)) from hb]
 simpa using hx j u hu
end
section
inductive Reach (succ:Nat->List Nat) (a:Nat):Nat->Prop
 | refl:Reach succ a a
 | step {b c:Nat}:Reach succ a b->c∈succ b->Reach succ a c
theorem Reach.trans {succ:Nat->List Nat} {a b c:Nat} (h:Reach succ a b) (k:Reach succ b c):Reach succ a c:=by
 induction k with
 | refl=>exact h
 | step _ hc ih=>exact ih.step hc
theorem Reach.one {succ:Nat->List Nat} {a b:Nat} (h:b∈succ a):Reach succ a b:=Reach.refl.step h
theorem Reach.mono {succ succ':Nat->List Nat} (hs:∀ x u,u∈succ x->u∈succ' x) {a b:Nat} (h:Reach succ a b):Reach succ' a b:=by
 induction h with
 | refl=>exact Reach.refl
 | step _ hc ih=>exact ih.step (hs _ _ hc)
def visit (s:Nat × List Nat) (u:Nat):Nat × List Nat:=if s.1.testBit u then s else (s.1 ||| 2 ^ u,s.2++[u])
def bstep (succ:Nat->List Nat) (s:Nat × List Nat):Nat × List Nat:=match s.2 with | []=>s | x :: q=>(succ x).foldl visit (s.1,q)
def biter (succ:Nat->List Nat) (t:Nat):Nat->Nat × List Nat
 | 0=>(2 ^ t,[t])
 | k+1=>bstep succ (biter succ t k)
def reachN (succ:Nat->List Nat) (n t:Nat):Nat:=(biter succ t n).1
structure VInv (n:Nat) (succ:Nat->List Nat) (t:Nat) (L:List Nat) (S:Nat):Prop where
 nd:L.Nodup
 lt:∀ x,x∈L->x<n
 bit:∀ u,S.testBit u=true↔u∈L
 rch:∀ x,x∈L->Reach succ t x
theorem visit_spec {n:Nat} {succ:Nat->List Nat} {t:Nat} {P Q:List Nat} {S u:Nat} (h:VInv n succ t (P++Q) S) (hu:u<n) (hr:Reach succ t u) :
  ∃ R,(visit (S,Q) u).2=Q++R/\VInv n succ t (P++(Q++R)) (visit (S,Q) u).1/\u∈P++(Q++R):=by
 unfold visit;by_cases hb:S.testBit u=true
 ·exact ⟨[],by simp [hb],by simpa [hb] using h,by simpa using (h.bit u).1 hb⟩
 ·have hn:u∉P++Q:=fun hm=>hb ((h.bit u).2 hm);refine ⟨[u],by simp [hb],?_,by simp⟩;simp only [hb,Bool.false_eq_true,if_false];rw [<- List.append_assoc];refine ⟨?_,?_,?_,?_⟩
  ·rw [List.nodup_append];exact ⟨h.nd,by simp,fun a ha b hb' e=>by simp at hb'; subst e; subst hb'; exact hn ha⟩
  ·intro x hx;rcases List.mem_append.1 hx with hx | hx
   ·exact h.lt x hx
   ·simp at hx; omega
  ·intro v;simp only [Nat.testBit_or,Nat.testBit_two_pow,Bool.or_eq_true,decide_eq_true_eq,List.mem_append,List.mem_singleton];rw [h.bit v,List.mem_append];exact ⟨fun e=>e.elim Or.inl (fun e=>Or.inr e.symm),fun e=>e.elim Or.inl (fun e=>Or.inr e.symm)⟩
  ·intro x hx;rcases List.mem_append.1 hx with hx | hx
   ·exact h.rch x hx
   ·simp at hx; subst hx; exact hr
theorem fold_spec {n:Nat} {succ:Nat->List Nat} {t:Nat} {P:List Nat}:∀ (us:List Nat) (S:Nat) (Q:List Nat),VInv n succ t (P++Q) S->(∀ u,u∈us->u<n/\Reach succ t u) ->
  ∃ R,(us.foldl visit (S,Q)).2=Q++R/\VInv n succ t (P++(Q++R)) (us.foldl visit (S,Q)).1/\∀ u,u∈us->u∈P++(Q++R)
 | [],S,Q,h,_=>⟨[],by simp,by simpa using h,fun u hu=>by cases hu⟩
 | u :: us,S,Q,h,hu=>by
  obtain ⟨R,h1,h2,h3⟩:=visit_spec h (hu u (List.mem_cons_self ..)).1 (hu u (List.mem_cons_self ..)).2;obtain ⟨S1,Q1,he⟩:∃ S1 Q1,visit (S,Q) u=(S1,Q1):=⟨_,_,rfl⟩;rw [he] at h1 h2;simp only at h1 h2;subst h1;obtain ⟨R',k1,k2,k3⟩:=fold_spec us S1 (Q++R) h2 (fun v hv=>hu v (List.mem_cons_of_mem _ hv));refine ⟨R++R',?_,?_,?_⟩
  ·rw [List.foldl_cons,he,k1,List.append_assoc]
  ·rw [List.foldl_cons,he]; simpa [List.append_assoc] using k2
  ·intro v hv;rcases List.mem_cons.1 hv with rfl | hv
   ·have:v∈P++(Q++R++R'):=by
     rw [<- List.append_assoc]; exact List.mem_append_left _ h3
    simpa [List.append_assoc] using this
   ·simpa [List.append_assoc] using k3 v hv
structure BInv (n:Nat) (succ:Nat->List Nat) (t:Nat) (P:List Nat) (S:Nat) (Q:List Nat):Prop where
 v:VInv n succ t (P++Q) S
 cls:∀ x,x∈P->∀ u,u∈succ x->u∈P++Q
 has:t∈P++Q
theorem nodup_le {n:Nat} {L:List Nat} (h:L.Nodup) (hl:∀ x,x∈L->x<n):L.length<=n:=by
 have:=h.length_le_of_subset (fun x hx=>List.mem_range.2 (hl x hx))
 simpa using this
theorem biter_spec {n:Nat} {succ:Nat->List Nat} {t:Nat} (ht:t<n) (hs:∀ x,x<n->∀ u,u∈succ x->u<n):∀ k,∃ P,BInv n succ t P (biter succ t k).1 (biter succ t k).2/\(P.length=k\/(biter succ t k).2=[])
 | 0=>by
  refine ⟨[],⟨⟨by simp [biter],fun x hx=>by simp [biter] at hx; omega,fun u=>?_,fun x hx=>?_⟩,fun x hx=>(by cases hx),by simp [biter]⟩,Or.inl rfl⟩
  ·simp only [biter,Nat.testBit_two_pow,List.nil_append,List.mem_singleton,decide_eq_true_eq];exact ⟨Eq.symm,Eq.symm⟩
  ·simp [biter] at hx; subst hx; exact Reach.refl
 | k+1=>by
  obtain ⟨P,hB,hk⟩:=biter_spec ht hs k;obtain ⟨S,Q,he⟩:∃ S Q,biter succ t k=(S,Q):=⟨_,_,rfl⟩;rw [he] at hB hk;simp only at hB hk;have e1:biter succ t (k+1)=bstep succ (S,Q):=by rw [<- he]; rfl
  rw [e1];cases Q with
  | nil=>exact ⟨P,hB,Or.inr rfl⟩
  | cons x q =>
   have hxm:x∈P++x :: q:=by simp
   have hv:VInv n succ t ((P++[x])++q) S:=by have:=hB.v; simpa [List.append_assoc] using this
   obtain ⟨R,h1,h2,h3⟩:=fold_spec (succ x) S q hv (fun u hu=>⟨hs x (hB.v.lt x hxm) u hu,(hB.v.rch x hxm).step hu⟩);refine ⟨P++[x],⟨?_,?_,?_⟩,Or.inl ?_⟩
   ·show VInv n succ t (P++[x]++(bstep succ (S,x :: q)).2) _
    unfold bstep; simp only; rw [h1]; exact h2
   ·show ∀ y,y∈P++[x]->∀ u,u∈succ y->u∈P++[x]++(bstep succ (S,x :: q)).2
    unfold bstep; simp only; rw [h1];intro y hy u hu;rcases List.mem_append.1 hy with hy | hy
    ·have:=hB.cls y hy u hu;simp only [List.mem_append,List.mem_cons,List.mem_singleton,List.not_mem_nil,or_false] at this ⊢;rcases this with h | h | h
     ·exact Or.inl (Or.inl h)
     ·exact Or.inl (Or.inr h)
     ·exact Or.inr (Or.inl h)
    ·simp at hy; subst hy; exact h3 u hu
   ·show t∈P++[x]++(bstep succ (S,x :: q)).2
    unfold bstep; simp only; rw [h1];have:=hB.has;simp only [List.mem_append,List.mem_cons,List.mem_singleton,List.not_mem_nil,or_false] at this ⊢;rcases this with h | h | h
    ·exact Or.inl (Or.inl h)
    ·exact Or.inl (Or.inr h)
    ·exact Or.inr (Or.inl h)
   ·rcases hk with hk | hk
    ·simp [hk]
    ·cases hk
theorem biter_left {n:Nat} {succ:Nat->List Nat} {t:Nat} (ht:t<n) (hs:∀ x,x<n->∀ u,u∈succ x->u<n) {k:Nat} {S:Nat} {Q:List Nat} (he:biter succ t k=(S,Q)) (hQ:Q≠[]):k+Q.length<=n/\∀ x,x∈Q->x<n:=by
 obtain ⟨P,hB,hk⟩:=biter_spec ht hs k;rw [he] at hB hk;simp only at hB hk;rcases hk with hk | hk
 ·have:=nodup_le hB.v.nd hB.v.lt;rw [List.length_append,hk] at this;exact ⟨this,fun x hx=>hB.v.lt x (List.mem_append_right _ hx)⟩
 ·exact absurd hk hQ
theorem biter_all {n:Nat} {succ:Nat->List Nat} {t:Nat} (ht:t<n) (hs:∀ x,x<n->∀ u,u∈succ x->u<n):(biter succ t n).2=[]:=by
 cases hq:(biter succ t n).2 with
 | nil=>rfl
 | cons x q =>
  have:=biter_left ht hs (k:=n) (S:=(biter succ t n).1) (Q:=x :: q) (by rw [<- hq]) (by simp);simp at this; omega
theorem biter_stays {succ:Nat->List Nat} {t:Nat} {S:Nat}:∀ (d k:Nat),biter succ t k=(S,[])->biter succ t (k+d)=(S,[])
 | 0,_,h=>h
 | d+1,k,h=>by
  have:=biter_stays d k h;show bstep succ (biter succ t (k+d))=_
  rw [this]; rfl
theorem biter_done {n:Nat} {succ:Nat->List Nat} {t:Nat} (ht:t<n) (hs:∀ x,x<n->∀ u,u∈succ x->u<n) {k:Nat} {S:Nat} (he:biter succ t k=(S,[])):S=reachN succ n t:=by
 have h1:=biter_stays n k he;have h2:=biter_stays (S:=reachN succ n t) k n (by rw [<- biter_all ht hs]; rfl);rw [Nat.add_comm] at h2;rw [h1] at h2;exact congrArg Prod.fst h2
theorem reachN_iff {n:Nat} {succ:Nat->List Nat} {t:Nat} (ht:t<n) (hs:∀ x,x<n->∀ u,u∈succ x->u<n) (u:Nat):(reachN succ n t).testBit u=true↔Reach succ t u:=by
 obtain ⟨P,hB,_⟩:=biter_spec ht hs n;have hQ:=biter_all ht hs;rw [hQ] at hB;rw [reachN,hB.v.bit];constructor
 ·exact hB.v.rch u
 ·intro h
  induction h with
  | refl=>exact hB.has
  | step _ hc ih=>exact hB.cls _ (by simpa using ih) _ hc
end
section
def upd (st:Nat->Nat) (c v:Nat):Nat->Nat:=fun i=>if i=c then v else st i
def loopC (v:(Nat->Nat)->Nat->Bool × (Nat->Nat)):List Nat->(Nat->Nat)->Bool × (Nat->Nat)
 | [],st=>(false,st)
 | u :: us,st=>if (v st u).1 then v st u else loopC v us (v st u).2
def visitC (succ:Nat->List Nat):Nat->(Nat->Nat)->Nat->Bool × (Nat->Nat)
 | 0,st,_=>(false,st)
 | f+1,st,c=>if 0<st c then (st c==1,st) else
   if (loopC (visitC succ f) (succ c) (upd st c 1)).1 then loopC (visitC succ f) (succ c) (upd st c 1) else (false,upd (loopC (visitC succ f) (succ c) (upd st c 1)).2 c 2)
def circB (succ:Nat->List Nat) (n:Nat) (C:Nat->Nat):Bool:=(loopC (visitC succ (n+1)) ((List.range n).map C) fun _=>0).1
theorem loopC_append (v:(Nat->Nat)->Nat->Bool × (Nat->Nat)):∀ (us us':List Nat) (st:Nat->Nat),(loopC v us st).1=false->loopC v (us++us') st=loopC v us' (loopC v us st).2
 | [],_,_,_=>rfl
 | u :: us,us',st,h=>by
  simp only [loopC,List.cons_append] at h ⊢;split
  ·rename_i hv; rw [if_pos hv] at h; rw [hv] at h; cases h
  ·rename_i hv
   rw [if_neg hv] at h;exact loopC_append v us us' _ h
theorem loopC_stop (v:(Nat->Nat)->Nat->Bool × (Nat->Nat)):∀ (us us':List Nat) (st:Nat->Nat),(loopC v us st).1=true->loopC v (us++us') st=loopC v us st
 | [],_,_,h=>by cases h
 | u :: us,us',st,h=>by
  simp only [loopC,List.cons_append] at h ⊢;split
  ·rfl
  ·rename_i hv
   rw [if_neg hv] at h;exact loopC_stop v us us' _ h
theorem loopC_snoc (v:(Nat->Nat)->Nat->Bool × (Nat->Nat)) (us:List Nat) (u:Nat) (st:Nat->Nat) (h:(loopC v us st).1=false) :
  loopC v (us++[u]) st=v (loopC v us st).2 u:=by
 rw [loopC_append v us [u] st h];simp only [loopC];split
 ·rfl
 ·rename_i hv
  simp only [Bool.not_eq_true] at hv;exact Prod.ext hv.symm rfl
theorem loopC_prefix {v:(Nat->Nat)->Nat->Bool × (Nat->Nat)} {us us':List Nat} {st:Nat->Nat} (h:us <+: us') (hv:(loopC v us st).1=true):loopC v us' st=loopC v us st:=by
 obtain ⟨r,rfl⟩:=h;exact loopC_stop v us r st hv
def zeros (n:Nat) (st:Nat->Nat):Nat:=((List.range n).filter fun i=>st i==0).length
theorem zeros_le {n:Nat} {st st':Nat->Nat} (h:∀ i,0<st i->0<st' i):zeros n st'<=zeros n st:=by
 unfold zeros;refine filter_le _ (fun i _ hi=>?_);simp only [beq_iff_eq] at hi ⊢;have:=h i;omega
theorem zeros_upd {n:Nat} {st:Nat->Nat} {c:Nat} (hc:c<n) (h0:st c=0) {v:Nat} (hv:0<v):zeros n (upd st c v)<zeros n st:=by
 unfold zeros;refine filter_lt _ (fun i _ hi=>?_) ⟨c,List.mem_range.2 hc,by simp [h0],by simp [upd]; omega⟩;simp only [beq_iff_eq,upd] at hi ⊢;split at hi
 ·omega
 ·exact hi
theorem zeros_start (n:Nat):zeros n (fun _=>0)=n:=by
 unfold zeros;rw [List.filter_eq_self.2 (fun i _=>by simp)];simp
theorem visitC_mono (succ:Nat->List Nat):∀ (f:Nat) (st:Nat->Nat) (c i:Nat),(∀ j,st j<=2)->(0<st i->0<(visitC succ f st c).2 i)/\∀ j,(visitC succ f st c).2 j<=2
 | 0,st,c,i,h2=>⟨fun h=>h,h2⟩
 | f+1,st,c,i,h2=>by
  have loop:∀ (us:List Nat) (st:Nat->Nat),(∀ j,st j<=2)->(0<st i->0<(loopC (visitC succ f) us st).2 i)/\∀ j,(loopC (visitC succ f) us st).2 j<=2:=by
   intro us
   induction us with
   | nil=>intro st h2; exact ⟨fun h=>h,h2⟩
   | cons u us ih =>
    intro st h2;have hv:=visitC_mono succ f st u i h2;simp only [loopC];split
    ·exact hv
    ·have:=ih _ hv.2;exact ⟨fun h=>this.1 (hv.1 h),this.2⟩
  have h1:∀ j,upd st c 1 j<=2:=fun j=>by unfold upd; split; omega; exact h2 j
  have hl:=loop (succ c) (upd st c 1) h1;simp only [visitC];split
  ·exact ⟨fun h=>h,h2⟩
  ·have up:0<st i->0<upd st c 1 i:=fun h=>by unfold upd; split; omega; exact h
   split
   ·exact ⟨fun h=>hl.1 (up h),hl.2⟩
   ·refine ⟨fun h=>?_,fun j=>?_⟩
    ·show 0<upd _ c 2 i
     unfold upd;split
     ·omega
     ·exact hl.1 (up h)
    ·show upd _ c 2 j<=2
     unfold upd;split
     ·omega
     ·exact hl.2 j
theorem loopC_mono (succ:Nat->List Nat) (f:Nat):∀ (us:List Nat) (st:Nat->Nat),(∀ j,st j<=2)->(∀ i,0<st i->0<(loopC (visitC succ f) us st).2 i)/\∀ j,(loopC (visitC succ f) us st).2 j<=2
 | [],st,h2=>⟨fun _ h=>h,h2⟩
 | u :: us,st,h2=>by
  have hv:=fun i=>visitC_mono succ f st u i h2;simp only [loopC];split
  ·exact ⟨fun i=>(hv i).1,(hv 0).2⟩
  ·have:=loopC_mono succ f us _ (hv 0).2;exact ⟨fun i h=>this.1 i ((hv i).1 h),this.2⟩
end
section
open Go.RowKit Go.Proofs
theorem filter_snoc (p:Nat->Bool) (k:Nat):(List.range (k+1)).filter p=(List.range k).filter p++(if p k then [k] else []):=by
 rw [List.range_succ,List.filter_append];cases h:p k <;> simp [h]
def numsOf (l:List Nat):List Int:=l.map fun (i:Nat)=>(i:Int)
theorem nums_len9 (l:List Nat):(numsOf l).length=l.length:=by simp [numsOf]
def NewRow (w w':World) (v:Value) (xs:List Int):Prop:=∃ B,w.heap.size<=B/\w'.ownsRow B 3 1 v xs.length (xs.map (Value.int .i64))
theorem NewRow.pre {w0 w w':World} {v:Value} {xs:List Int} (hE:Ext w0 w) (h:NewRow w w' v xs):NewRow w0 w' v xs:=by
 obtain ⟨B,h1,h2⟩:=h;exact ⟨B,Nat.le_trans hE.size h1,h2⟩
theorem list50 (F:FuncId) (hF:Enters Tryz.prog F) (pre cap:Array Value) (a:Option Addr) (n c:Nat) (hn:n<=400) (p:Nat->Bool) (w:World)
  (hf:∀ k w1,k<n->Ext w w1->Calls Tryz.prog F (pre++#[.int .i64 k]++cap) w1 (fun e w2=>e=.returned (.bool (p k))/\Ext w1 w2)) :
  Calls Tryz.prog 50 #[.slice a n c,.func (.func F) pre cap] w fun e w2=>∃ v,e=.returned v/\Ints w2 v (numsOf ((List.range n).filter p))/\Ext w w2/\NewRow w w2 v (numsOf ((List.range n).filter p)):=by
 have Hf:=dh hf; clear hf;obtain ⟨i0,hi,hz0,hz1,hz2⟩:=info_parts info3
 go_enter Tryz.func50,Tryz.ntmps50
 go_wp2;go_loopw [5,6,9] (fun v _ i wr=>∃ k:Nat,k<=n/\i=.int .i64 k/\wr.ownsRow w.heap.size 3 1 v ((List.range k).filter p).length ((numsOf ((List.range k).filter p)).map (Value.int .i64))/\Hid (Ext w wr)) (fun _ _ i _=>n-(intOf i).toNat)
 case atStart=>exact ⟨0,Nat.zero_le _,rfl,World.ownsRow_nil _ _ _ _,Ext.refl w⟩
 case round =>
  obtain ⟨k,hk,rfl,hown,hE⟩:=hrel;by_cases hlt:k<n
  ·have hsz:=hE.out.size;have hEn:∀ (args:Array Value) (w:World),(callFunc F args).run Tryz.prog w=.ok (.enter F args) w:=hF;have hle:((List.range k).filter p).length<=k:=by have:=List.length_filter_le p (List.range k); simpa using this
   have Hown:=dh hown; clear hown;go_wp2_with fail;refine (Hf.out k _ hlt hE.out).mono ?_;rintro e w2 ⟨rfl,hE2⟩;have hown2:=owns_ext Hown.out hE2;have hE3:=dh (hE.out.trans hE2);have hsz2:=hE2.size;clear hE2;cases hp:p k
   ·have Hs:=dh (show (List.range (k+1)).filter p=(List.range k).filter p by rw [filter_snoc,hp]; simp);have Hown2:=dh hown2;clear hp hown2;go_wp2_with fail;go_roundw
    case rel=>exact ⟨k+1,by omega,by go_num,by rw [Hs.out]; exact Hown2.out,hE3⟩
    case measure=>simp [intOf]; omega
   ·have Hs:=dh (show (List.range (k+1)).filter p=(List.range k).filter p++[k] by rw [filter_snoc,hp]; simp);clear hp;obtain ⟨m,hm⟩:∃ m,m=((List.range k).filter p).length:=⟨_,rfl⟩;rw [<- hm] at hown2 hle;obtain ⟨L,hL⟩:∃ L,L=(numsOf ((List.range k).filter p)).map (Value.int .i64):=⟨_,rfl⟩;rw [<- hL] at hown2;have Hm:=dh hm; clear hm;have HL:=dh hL; clear hL;clear Hown;go_wp2_with (at_builtin; refine wpList_append_own _ rfl _ _ 35 rfl w.heap.size 3 i0 (.int .i64 0) 1 8 Tryz.underlying35 hi hz0 hz1 hz2 rfl (by decide) _ _ _ rfl (hown2.alloc _) ⟨w2.heap.size,0,none⟩ 1 1 [.int .i64 k] rfl rfl ?c1 ?c2 ?c3 ?c4 ?c5 ?_)
    case c1=>exact cell_one_new _ _ _
    case c2=>simp [Value.oneCell']
    case c3=>unfold maxLen; omega
    case c4=>omega
    case c5=>simp; omega
    intro v' w3 hown3 hgrow3 _;have hE4:=dh (below_grown hE3.out (by omega) hown2 hgrow3);have Hown3:=dh hown3;clear hown3 hgrow3 hown2;go_wp2;go_roundw
    case rel =>
     refine ⟨k+1,by omega,by go_num,?_,hE4⟩;rw [Hs.out];have:=Hown3.out;rw [Hm.out,HL.out] at this
     simpa [numsOf] using this
    case measure=>simp [intOf]; omega
  ·have:k=n:=by omega
   subst this;have hle:((List.range k).filter p).length<=k:=by have:=List.length_filter_le p (List.range k); simpa using this
   have Ho:=dh (owns_ints (l:=numsOf ((List.range k).filter p)) (by simpa [numsOf] using hown) (by unfold maxBytes; omega) (fun x hx=>by
    unfold numsOf at hx;rw [List.mem_map] at hx;obtain ⟨i,hi,rfl⟩:=hx;have:=List.mem_range.1 (List.mem_filter.1 hi).1;omega))
   have Hnw:=dh (show NewRow w wr _ (numsOf ((List.range k).filter p)) from ⟨w.heap.size,Nat.le_refl _,by rw [nums_len9]; exact hown⟩);clear hown;go_wp2;go_ret;exact ⟨_,rfl,Ho.out,hE.out,Hnw.out⟩
theorem enters48:Enters Tryz.prog 48:=enters_of Tryz.func48 (by kernel_rfl) rfl
def aboveL (n:Nat) (S:List Nat) (a:Nat):List Nat:=(List.range n).filter fun i=>(nth S a).testBit i
theorem above19 (vb:Nat) (g:List Ty) (C:Nat->Nat) (rs:List Reveal) (S:List Nat) (gv cv rv av:Value) (hn:g.length<=400) (hS:S.length=g.length) (a:Int) (w:World) (hv:EnvW w vb g C rs S gv cv rv av)
  (hx:-9223372036854775808<=a/\a<=9223372036854775807) :
  Calls Tryz.prog 19 #[.pointer (some ⟨vb,0,none⟩),.int .i64 a] w fun e w' =>
   (askedR g.length [a]=0/\∃ v,e=.returned (.tuple #[v,.int .i64 0])/\Ints w' v (numsOf (aboveL g.length S a.toNat))/\Ext w w'/\NewRow w w' v (numsOf (aboveL g.length S a.toNat))) \/
   (askedR g.length [a]=1/\e=.returned (.tuple #[.slice none 0 0,.int .i64 1])/\Ext w w'):=by
 have hE0:=Ext.alloc w (.cells #[.int .i64 a] 3);have hl:=ints_one w a hx;obtain ⟨ga,gc,rfl,_⟩:=id hv.gr;have hcall:=dh (asked47 vb ga g.length gc hn _ 1 1 [a] _ (hE0.cell hv.c0) hl);have HE0:=dh hE0; clear hE0 hl;have Hv:=dh hv; clear hv;rcases askedR_cases g.length [a] with ⟨h0,hin⟩ | ⟨h0,_⟩
 ·have H0:=dh h0;rw [h0] at hcall;have h1:=hin a (by simp);obtain ⟨an,rfl⟩:∃ an:Nat,a=an:=⟨a.toNat,(Int.toNat_of_nonneg h1.1).symm⟩;have hal:an<S.length:=by omega
  clear h0 hin h1 hS
  go_enter Tryz.func19,Tryz.ntmps19
  go_wp2_with fail;refine hcall.out.mono ?_;rintro e w1 ⟨rfl,hE⟩;have hv1:=EnvW.mono (HE0.out.trans hE) Hv.out;have HE:=dh (HE0.out.trans hE); clear hE;have c0:=hv1.c0;have c4:=hv1.c4;have hab:=hv1.ab;obtain ⟨aa,ac,rfl,_⟩:=id hab;obtain ⟨sb,so,rfl,hsl,hbits⟩:=BitsW.at hab hal;have hbd:=(SlW.bound hab).2;have Hbits:=dh hbits;clear hv1 hab hbits;go_upto_region 4 with (fail);refine Zr 99 ?_;change wpE _ _ _ _ _ _ _ _ (World.drew _);refine Zg 0 ?_;refine Zg 1 ?_;refine Zg 2 ?_;refine Zg 3 ?_;refine Zc 4 c0 ?_;refine Zg 5 ?_;refine Zg 6 ?_;refine Zg 7 ?_;refine Zc 8 c4 ?_;refine Zg 9 ?_;refine Zg 10 ?_;refine Zg 11 ?_;refine Zo 12 fun K hK=>?_;go_simp;refine (list50 48 enters48 #[.pointer (some ⟨sb,so+an*7,none⟩)] #[] ga g.length gc hn (fun i=>(nth S an).testBit i) _ (fun k w2 hk hE=>(has48 sb _ _ k (by omega) w2 (BitsAt.mono ((Ext.drew _).trans hE) Hbits.out)).mono (fun e w3 h=>⟨h.1,by rw [h.2]; exact Ext.refl _⟩))).mono ?_;rintro e w2 ⟨v,rfl,hi,hE,hnw⟩;have Hi:=dh hi; clear hi;have Hnw:=dh (NewRow.pre (HE.out.trans (Ext.drew _)) hnw); clear hnw;have HE2:=dh (HE.out.trans ((Ext.drew _).trans hE));refine hK _ _ (hE) ?_; clear hK K;clear hE;refine Zg 13 ?_;refine Zg 14 ?_;refine Zd ?_;go_wp2_with fail;go_ret2;exact Or.inl ⟨H0.out,v,rfl,by simpa [aboveL] using Hi.out,HE2.out,by first | exact Hnw.out | simpa [aboveL] using Hnw.out⟩
 ·have H0:=dh h0;rw [h0] at hcall;clear h0
  go_enter Tryz.func19,Tryz.ntmps19
  go_wp2_with fail;refine hcall.out.mono ?_;rintro e w1 ⟨rfl,hE⟩;have HE:=dh (HE0.out.trans hE); clear hE;go_wp2_with fail;go_ret2;exact Or.inr ⟨H0.out,rfl,HE.out⟩
end
end Go.Proofs.YtjffkeoajkhbmaaGreat
