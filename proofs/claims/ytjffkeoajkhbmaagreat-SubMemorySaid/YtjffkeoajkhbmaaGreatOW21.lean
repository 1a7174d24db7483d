/- Derive: its two maps, its boxes and its queue, while it searches. -/
import Derived.Test.YtjffkeoajkhbmaaGreatOW0
import Derived.Test.YtjffkeoajkhbmaaGreatOW10
import Derived.Test.YtjffkeoajkhbmaaGreatOW18
import Derived.Test.YtjffkeoajkhbmaaGreatOW20
namespace Go.Proofs.YtjffkeoajkhbmaaGreat
set_option linter.unusedSimpArgs false
set_option linter.unusedVariables false
set_option maxRecDepth 100000
set_option maxHeartbeats 8000000
open Go.RowKit Go.Proofs Go.Shelf
def MapI (W:World) (b:Nat) (F:Nat->Option Value):Prop:=∃ m:List (Int × Value),MapAt (Value.int .i64) W b m/\∀ u:Nat,alook (u:Int) m=F u
theorem MapI.lt {W:World} {b:Nat} {F:Nat->Option Value} (h:MapI W b F):b<W.heap.size:=by obtain ⟨m,h,_⟩:=h; exact h.lt
theorem MapI.same {W W':World} {b:Nat} {F:Nat->Option Value} (h:MapI W b F) (hs:W'.heap[b]? = W.heap[b]?):MapI W' b F:=by obtain ⟨m,h,k⟩:=h; exact ⟨m,h.same hs,k⟩
theorem MapI.ext {W W':World} {b:Nat} {F:Nat->Option Value} (h:MapI W b F) (hE:Ext W W'):MapI W' b F:=h.same (hE.block b h.lt)
theorem MapI.obj {W:World} {b:Nat} {F:Nat->Option Value} (h:MapI W b F):∃ o:Obj,W.heap[b]? = some o/\o.isCells=false:=by
 obtain ⟨m,⟨es,c,h,_⟩,_⟩:=h;exact ⟨_,h,rfl⟩
theorem MapI.ne {W:World} {b j:Nat} {F:Nat->Option Value} (h:MapI W b F) {cs:Array Value} {T:TypeId} {p:Nat × Nat} (hj:W.heap[j]? = some (.cells cs T p)):j≠b:=fun e=>by
 obtain ⟨o,ho,hc⟩:=h.obj;rw [e,ho] at hj; cases hj; cases hc
theorem MapI.made (W:World):MapI (W.alloc (.map #[] 0)) W.heap.size (fun _=>none):=⟨[],MapAt.made _ W,fun _=>rfl⟩
theorem MapI.lookup {W:World} {b:Nat} {F:Nat->Option Value} (h:MapI W b F) {t et:TypeId} (ht:Tryz.prog.underlying t=some (.map 3 et)) {z:Value} (hz:∀ w,(zeroValue et).run Tryz.prog w=.ok z w) (u:Nat) :
  (Instr.lookup t (.map (some b)) (.int .i64 u) false).run Tryz.prog W=.ok ((F u).getD z) W:=by
 obtain ⟨m,h,k⟩:=h;have:=h.lookup ht keyInt (u:Int) hz;rw [k] at this;exact this
theorem MapAt.lookupOk {κ:Type} [DecidableEq κ] {P:Program} {enc:κ->Value} {w:World} {b:Nat} {m:List (κ × Value)} (h:MapAt enc w b m) {t kt et:TypeId} (ht:P.underlying t=some (.map kt et)) (K:KeyLaw P kt enc) (k:κ) {z:Value}
  (hz:∀ w,(zeroValue et).run P w=.ok z w):(Instr.lookup t (.map (some b)) (enc k) true).run P w=.ok (.tuple #[(alook k m).getD z,.bool (alook k m).isSome]) w:=by
 obtain ⟨es,clock,hb,hm⟩:=h;obtain ⟨d,hd,hs⟩:=K.und;have hf:=findNow_eq hs k m es.toList 0 hm;have hl:=afind_look k m 0;have hg:(getObj b).run P w=.ok (.map es clock) w:=by simp [getObj,Sem.run,hb]
 simp only [Instr.lookup,run_underlying ht,Sem.run_bind,Result.andThen_ok,hg,Sem.run_pure,K.chk,Instr.findKey,run_underlying hd,hf];cases ha:afind k m 0 with
 | none =>
  rw [ha] at hl;rw [<- hl];simp [hz]
 | some p =>
  rw [ha] at hl;rw [<- hl];simp
theorem MapI.lookupOk {W:World} {b:Nat} {F:Nat->Option Value} (h:MapI W b F) {t et:TypeId} (ht:Tryz.prog.underlying t=some (.map 3 et)) {z:Value} (hz:∀ w,(zeroValue et).run Tryz.prog w=.ok z w) (u:Nat) :
  (Instr.lookup t (.map (some b)) (.int .i64 u) true).run Tryz.prog W=.ok (.tuple #[(F u).getD z,.bool (F u).isSome]) W:=by
 obtain ⟨m,h,k⟩:=h;have:=h.lookupOk ht keyInt (u:Int) hz;rw [k] at this;exact this
theorem MapI.update {W:World} {b:Nat} {F:Nat->Option Value} (h:MapI W b F) {t et:TypeId} (ht:Tryz.prog.underlying t=some (.map 3 et)) (u:Nat) (v:Value) :
  ∃ W',(Instr.mapUpdate t (.map (some b)) (.int .i64 u) v).run Tryz.prog W=.ok () W'/\MapI W' b (fun i=>if i=u then some v else F i)/\W.grownBy W' (some b)/\W'.heap.size=W.heap.size:=by
 obtain ⟨m,h,k⟩:=h;obtain ⟨W',h1,h2,h3,h4⟩:=h.update ht keyInt (u:Int) v;refine ⟨W',h1,⟨_,h2,fun i=>?_⟩,h3,h4⟩;rw [alook_aput,k];by_cases e:i=u
 ·subst e; simp
 ·rw [if_neg (by omega)]; exact (if_neg e).symm
theorem zero3 (w:World):(zeroValue 3).run Tryz.prog w=.ok (.int .i64 0) w:=by kernel_rfl
theorem zero93 (w:World):(zeroValue 93).run Tryz.prog w=.ok (.agg #[.int .u8 0,.int .i64 0,.int .i64 0]) w:=by kernel_rfl
def encV (s:Stp):Value:=.agg #[.int .u8 s.rule,.int .i64 s.to_,.int .i64 s.n]
def fromV (a:Nat) (D:Disc) (u:Nat):Option Value:=if u=a then some (.int .i64 (-1)) else (D.find? fun d=>d.1==u).map fun d=>.int .i64 d.2.1
def byV (D:Disc) (u:Nat):Option Value:=(D.find? fun d=>d.1==u).map fun d=>encV d.2.2
theorem find_any {D:Disc} {u:Nat}:(D.find? fun d=>d.1==u).isSome=D.any fun d=>d.1==u:=by
 induction D with
 | nil=>rfl
 | cons d D ih =>
  rw [List.find?_cons,List.any_cons];cases h:d.1==u
  ·simpa using ih
  ·rfl
theorem fromV_some (a:Nat) (D:Disc) (u:Nat):(fromV a D u).isSome=metB a D u:=by
 unfold fromV metB;by_cases h:u=a
 ·simp [h]
 ·rw [if_neg h,Option.isSome_map,find_any];simp [h]
theorem find_new {D:Disc} {x u:Nat} {y:Stp}:((D++[(y.to_,x,y)]).find? fun d=>d.1==u)=if (D.any fun d=>d.1==u) then (D.find? fun d=>d.1==u) else if u=y.to_ then some (y.to_,x,y) else none:=by
 rw [List.find?_append];have:=find_any (D:=D) (u:=u);cases h:D.find? fun d=>d.1==u
 ·rw [h] at this;rw [<- this];by_cases e:u=y.to_
  ·simp [e]
  ·have e':(y.to_==u)=false:=by simp; omega
   simp [e,e',List.find?_cons]
 ·rw [h] at this;rw [<- this];simp
theorem fromV_snoc {a x:Nat} {D:Disc} {y:Stp} (h:metB a D y.to_=false) (u:Nat):fromV a (D++[(y.to_,x,y)]) u=if u=y.to_ then some (.int .i64 x) else fromV a D u:=by
 unfold fromV;unfold metB at h;rw [Bool.or_eq_false_iff] at h;have hya:¬ y.to_=a:=by simpa using h.1
 by_cases e:u=y.to_
 ·subst e;rw [if_neg hya,if_pos rfl,find_new,h.2]; simp
 ·rw [if_neg e];by_cases ha:u=a
  ·rw [if_pos ha,if_pos ha]
  ·rw [if_neg ha,if_neg ha,find_new,if_neg e];have:=find_any (D:=D) (u:=u);cases hf:D.any fun d=>d.1==u
   ·rw [if_neg (by decide)];cases hq:D.find? fun d=>d.1==u with
    | none=>rfl
    | some d=>rw [hq,hf] at this; cases this
   ·simp
theorem byV_snoc {a x:Nat} {D:Disc} {y:Stp} (h:metB a D y.to_=false) (u:Nat):byV (D++[(y.to_,x,y)]) u=if u=y.to_ then some (encV y) else byV D u:=by
 unfold byV;unfold metB at h;rw [Bool.or_eq_false_iff] at h;by_cases e:u=y.to_
 ·subst e;rw [if_pos rfl,find_new,h.2]; simp
 ·rw [if_neg e,find_new,if_neg e];have:=find_any (D:=D) (u:=u);cases hf:D.any fun d=>d.1==u
  ·rw [if_neg (by decide)];cases hq:D.find? fun d=>d.1==u with
   | none=>rfl
   | some d=>rw [hq,hf] at this; cases this
  ·simp
theorem met_next {a t:Nat} {st:Nat->List Stp} {D:Disc} (hg:GoodR a st D.reverse) (ht:t≠a) (hm:metB a D t=true) :
  ∃ x s,fromV a D t=some (.int .i64 (x:Nat))/\byV D t=some (encV s)/\back D.reverse t=s :: back D.reverse x/\metB a D x=true:=by
 have h1:=find_any (D:=D) (u:=t);unfold metB at hm;rw [Bool.or_eq_true] at hm;have h2:=hm.resolve_left (by simpa using ht);rw [h2] at h1;cases hf:D.find? fun d=>d.1==t with
 | none=>rw [hf] at h1; cases h1
 | some d =>
  have hmem:=List.mem_of_find?_eq_some hf;have hd:d.1=t:=by simpa using List.find?_some hf
  obtain ⟨h3,h4⟩:=good_entry hg d (by simpa using hmem);rw [hd] at h3;refine ⟨d.2.1,d.2.2,?_,?_,h3,?_⟩
  ·unfold fromV; rw [if_neg ht,hf]; rfl
  ·unfold byV; rw [hf]; rfl
  ·rw [metB_iff];exact h4.imp id fun ⟨e,he,e1⟩=>⟨e,by simpa using he,e1⟩
structure DM (w:World) (b5 fm bm b10 b11 a b:Nat) (D:Disc) (W:World):Prop where
 bb:W.heap[b5]? = some (.cells #[.int .i64 b] 3 (0,0))
 frm:W.heap[b10]? = some (.cells #[.map (some fm)] 131 (0,0))
 byb:W.heap[b11]? = some (.cells #[.map (some bm)] 132 (0,0))
 mf:MapI W fm (fromV a D)
 mb:MapI W bm (byV D)
 ext:Ext w W
 lo:w.heap.size<=b5/\w.heap.size<=fm/\w.heap.size<=bm/\w.heap.size<=b10/\w.heap.size<=b11/\fm≠bm
theorem DM.grow {w W W':World} {b5 fm bm b10 b11 a b:Nat} {D:Disc} (h:DM w b5 fm bm b10 b11 a b D W) (hE:Ext W W'):DM w b5 fm bm b10 b11 a b D W' :=
 ⟨(hE.block _ (row_lt h.bb)).trans h.bb,(hE.block _ (row_lt h.frm)).trans h.frm,(hE.block _ (row_lt h.byb)).trans h.byb,h.mf.ext hE,h.mb.ext hE,h.ext.trans hE,h.lo⟩
theorem DM.other {w W W':World} {b5 fm bm b10 b11 a b r:Nat} {D:Disc} (h:DM w b5 fm bm b10 b11 a b D W) (hg:W.grownBy W' (some r)) (hr:w.heap.size<=r) (h5:r≠b5) (h10:r≠b10) (h11:r≠b11) (hf:r≠fm) (hm:r≠bm):DM w b5 fm bm b10 b11 a b D W' :=
 ⟨(hg.block _ (row_lt h.bb) (fun e=>h5 (Option.some.inj e).symm)).trans h.bb,(hg.block _ (row_lt h.frm) (fun e=>h10 (Option.some.inj e).symm)).trans h.frm,(hg.block _ (row_lt h.byb) (fun e=>h11 (Option.some.inj e).symm)).trans h.byb,
  h.mf.same (hg.block _ h.mf.lt (fun e=>hf (Option.some.inj e).symm)),h.mb.same (hg.block _ h.mb.lt (fun e=>hm (Option.some.inj e).symm)),h.ext.grown hg h.ext.size (fun q e=>by cases e; exact hr),h.lo⟩
theorem DM.put {w W:World} {b5 fm bm b10 b11 a b x:Nat} {D:Disc} {y:Stp} (h:DM w b5 fm bm b10 b11 a b D W) (hm:metB a D y.to_=false) :
  ∃ W1 W2,(Instr.mapUpdate 131 (.map (some fm)) (.int .i64 y.to_) (.int .i64 x)).run Tryz.prog W=.ok () W1/\(Instr.mapUpdate 132 (.map (some bm)) (.int .i64 y.to_) (encV y)).run Tryz.prog W1=.ok () W2 /\
   W.grownBy W1 (some fm)/\W1.grownBy W2 (some bm)/\W1.heap.size=W.heap.size/\W2.heap.size=W.heap.size/\DM w b5 fm bm b10 b11 a b (D++[(y.to_,x,y)]) W2/\(∃ o:Obj,W.heap[fm]? = some o/\o.isCells=false)/\(∃ o:Obj,W1.heap[bm]? = some o/\o.isCells=false):=by
 obtain ⟨W1,r1,m1,g1,s1⟩:=h.mf.update Tryz.underlying131 y.to_ (.int .i64 x);have hb1:MapI W1 bm (byV D):=h.mb.same (g1.block _ h.mb.lt (fun e=>h.lo.2.2.2.2.2 (Option.some.inj e).symm));obtain ⟨W2,r2,m2,g2,s2⟩:=hb1.update Tryz.underlying132 y.to_ (encV y);have key:∀ (c:Nat) (cs:Array Value) (T:TypeId),W.heap[c]? = some (.cells cs T (0,0))->W2.heap[c]? = some (.cells cs T (0,0)):=fun c cs T hc=>by
  have h1:=h.mf.ne hc;have h2:=h.mb.ne hc;have e1:=(g1.block c (row_lt hc) (fun e=>h1 (Option.some.inj e))).trans hc;exact (g2.block c (row_lt e1) (fun e=>h2 (Option.some.inj e))).trans e1
 refine ⟨W1,W2,r1,r2,g1,g2,s1,s2.trans s1,⟨key _ _ _ h.bb,key _ _ _ h.frm,key _ _ _ h.byb,?_,?_,?_,h.lo⟩,h.mf.obj,hb1.obj⟩
 ·have:=m1.same (g2.block _ m1.lt (fun e=>h.lo.2.2.2.2.2 (Option.some.inj e)));obtain ⟨m,k1,k2⟩:=this;exact ⟨m,k1,fun u=>by rw [k2,fromV_snoc hm]⟩
 ·obtain ⟨m,k1,k2⟩:=m2;exact ⟨m,k1,fun u=>by rw [k2,byV_snoc hm]⟩
 ·exact (h.ext.grown g1 h.ext.size (fun q e=>by cases e; exact h.lo.2.1)).grown g2 (by rw [s1]; exact h.ext.size) (fun q e=>by cases e; exact h.lo.2.2.1)
structure DI (w:World) (b5 fm bm b10 b11 b12 a b:Nat) (D:Disc) (Q:List Nat) (W:World):Prop where
 dm:DM w b5 fm bm b10 b11 a b D W
 todo:∃ v,W.heap[b12]? = some (.cells #[v] 35 (0,0))/\Tail W (b5+1) v Q
 lo:w.heap.size<=b12/\b12≠b5/\b12≠b10/\b12≠b11
theorem DI.grow {w W W':World} {b5 fm bm b10 b11 b12 a b:Nat} {D:Disc} {Q:List Nat} (h:DI w b5 fm bm b10 b11 b12 a b D Q W) (hE:Ext W W'):DI w b5 fm bm b10 b11 b12 a b D Q W':=by
 obtain ⟨v,h1,h2⟩:=h.todo;exact ⟨h.dm.grow hE,⟨v,(hE.block _ (row_lt h1)).trans h1,h2.ext hE⟩,h.lo⟩
theorem DM.walks {w W W':World} {b5 fm bm b10 b11 a b B:Nat} {D:Disc} {row:Option Nat} (h:DM w b5 fm bm b10 b11 a b D W) (hB:fm<B/\bm<B) (hw:w.heap.size<=B) (hg:W.grownBy W' row) (hr:∀ r,row=some r->B<=r/\∃ o:Obj,W.heap[r]? = some o/\o.isCells=false):DM w b5 fm bm b10 b11 a b D W':=by
 have key:∀ (b:Nat) (cs:Array Value) (T:TypeId) (p:Nat × Nat),W.heap[b]? = some (Obj.cells cs T p)->W'.heap[b]? = some (Obj.cells cs T p):=fun b cs T p hb=>(hg.block b (row_lt hb) (fun e=>by
  obtain ⟨_,o,ho,hc⟩:=hr b e.symm;rw [hb] at ho; cases ho; cases hc)).trans hb
 exact ⟨key _ _ _ _ h.bb,key _ _ _ _ h.frm,key _ _ _ _ h.byb,h.mf.same (hg.block _ h.mf.lt (fun e=>by have:=(hr _ e.symm).1; omega)),h.mb.same (hg.block _ h.mb.lt (fun e=>by have:=(hr _ e.symm).1; omega)),
  h.ext.grown hg h.ext.size (fun r e=>Nat.le_trans hw (hr r e).1),h.lo⟩
theorem DI.walks {w W W':World} {b5 fm bm b10 b11 b12 a b B:Nat} {D:Disc} {Q:List Nat} {row:Option Nat} (h:DI w b5 fm bm b10 b11 b12 a b D Q W) (hB:fm<B/\bm<B) (hw:w.heap.size<=B) (hg:W.grownBy W' row) (hr:∀ r,row=some r->B<=r/\∃ o:Obj,W.heap[r]? = some o/\o.isCells=false):DI w b5 fm bm b10 b11 b12 a b D Q W':=by
 have key:∀ (b:Nat) (cs:Array Value) (T:TypeId) (p:Nat × Nat),W.heap[b]? = some (Obj.cells cs T p)->W'.heap[b]? = some (Obj.cells cs T p):=fun b cs T p hb=>(hg.block b (row_lt hb) (fun e=>by
  obtain ⟨_,o,ho,hc⟩:=hr b e.symm;rw [hb] at ho; cases ho; cases hc)).trans hb
 obtain ⟨v,h1,h2⟩:=h.todo;refine ⟨h.dm.walks hB hw hg hr,⟨v,key _ _ _ _ h1,?_⟩,h.lo⟩;obtain ⟨g,off,cap,cur,rfl,k1,k2,k3,k4,k5,k6⟩:=h2;exact ⟨g,off,cap,cur,rfl,k1,key _ _ _ _ k2,k3,k4,k5,k6⟩
theorem DI.setQ {w W:World} {b5 fm bm b10 b11 b12 a b:Nat} {D:Disc} {Q Q':List Nat} {v:Value} (h:DI w b5 fm bm b10 b11 b12 a b D Q W) (hT:Tail W (b5+1) v Q'):DI w b5 fm bm b10 b11 b12 a b D Q' (W.setCell ⟨b12,0,none⟩ v):=by
 obtain ⟨v0,h1,-⟩:=h.todo;exact ⟨h.dm.other (grownBy_setB W b12 0 v) h.lo.1 h.lo.2.1 h.lo.2.2.1 h.lo.2.2.2 (h.dm.mf.ne h1) (h.dm.mb.ne h1),⟨v,set_row_self h1 _,hT.setOther h1 (by decide)⟩,h.lo⟩
theorem DI.rows {w W W':World} {b5 fm bm b10 b11 b12 a b:Nat} {D:Disc} {Q Q':List Nat} {g:Nat} {cur:Array Value} {v:Value} (h:DI w b5 fm bm b10 b11 b12 a b D Q W) (hg:W.grownBy W' (some g)) (hc:W.heap[g]? = some (.cells cur 3 (0,0))) (hgb:b5+1<=g)
  (hT:Tail W' (b5+1) v Q'):DI w b5 fm bm b10 b11 b12 a b D Q' (W'.setCell ⟨b12,0,none⟩ v):=by
 obtain ⟨v0,h1,-⟩:=h.todo;have k:∀ (b:Nat) (cs:Array Value) (T:TypeId),T≠3->W.heap[b]? = some (.cells cs T (0,0))->g≠b:=fun b cs T hT hb e=>by subst e; rw [hb] at hc; cases hc; exact hT rfl
 have h6:=(hg.block _ (row_lt h1) (fun e=>k _ _ _ (by decide) h1 (Option.some.inj e).symm)).trans h1;have hd:=h.dm.other hg (by have:=h.dm.lo.1; omega) (by omega) (k _ _ _ (by decide) h.dm.frm) (k _ _ _ (by decide) h.dm.byb) (h.dm.mf.ne hc) (h.dm.mb.ne hc);exact ⟨hd.other (grownBy_setB W' b12 0 v) h.lo.1 h.lo.2.1 h.lo.2.2.1 h.lo.2.2.2 (hd.mf.ne h6) (hd.mb.ne h6),⟨v,set_row_self h6 _,hT.setOther h6 (by decide)⟩,h.lo⟩
theorem DI.put {w W:World} {b5 fm bm b10 b11 b12 a b x:Nat} {D:Disc} {Q:List Nat} {y:Stp} (h:DI w b5 fm bm b10 b11 b12 a b D Q W) (hm:metB a D y.to_=false) :
  ∃ W1 W2,(Instr.mapUpdate 131 (.map (some fm)) (.int .i64 y.to_) (.int .i64 x)).run Tryz.prog W=.ok () W1/\(Instr.mapUpdate 132 (.map (some bm)) (.int .i64 y.to_) (encV y)).run Tryz.prog W1=.ok () W2 /\
   W.grownBy W1 (some fm)/\W1.grownBy W2 (some bm)/\W2.heap.size=W.heap.size/\DI w b5 fm bm b10 b11 b12 a b (D++[(y.to_,x,y)]) Q W2/\(∀ (j:Nat) (cs:Array Value) (T:TypeId) (p:Nat × Nat),W.heap[j]? = some (.cells cs T p)->W1.heap[j]? = some (.cells cs T p)/\W2.heap[j]? = some (.cells cs T p)) /\
   ∀ n c1 c2,n<=w.heap.size->KpF n (footR c1 c2) W W2:=by
 obtain ⟨W1,W2,r1,r2,g1,g2,s1,s2,hd,ho1,ho2⟩:=h.dm.put (x:=x) hm;have key:∀ (j:Nat) (cs:Array Value) (T:TypeId) (p:Nat × Nat),W.heap[j]? = some (.cells cs T p)->W1.heap[j]? = some (.cells cs T p)/\W2.heap[j]? = some (.cells cs T p):=fun j cs T p hj=>by
  have e1:=(g1.block j (row_lt hj) (fun e=>h.dm.mf.ne hj (Option.some.inj e))).trans hj;exact ⟨e1,(g2.block j (row_lt e1) (fun e=>h.dm.mb.ne hj (Option.some.inj e))).trans e1⟩
 have back:∀ (j:Nat) (cs:Array Value) (T:TypeId) (p:Nat × Nat),W2.heap[j]? = some (.cells cs T p)->W.heap[j]? = some (.cells cs T p):=fun j cs T p hj=>by
  have hj2:j≠bm:=hd.mb.ne hj;have hj1:j≠fm:=hd.mf.ne hj;have hlt:=row_lt hj;have e1:=(g2.block j (by omega) (fun e=>hj2 (Option.some.inj e))).symm.trans hj;exact (g1.block j (by omega) (fun e=>hj1 (Option.some.inj e))).symm.trans e1
 obtain ⟨v,t1,t2⟩:=h.todo;refine ⟨W1,W2,r1,r2,g1,g2,s2,⟨hd,⟨v,(key _ _ _ _ t1).2,?_⟩,h.lo⟩,key,fun n c1 c2 hn=>⟨?_,fun j cs T p _ hj=>(key j cs T p hj).2,fun j cs T p hj hf=>?_⟩⟩
 ·obtain ⟨g,off,cap,cur,rfl,k1,k2,k3,k4,k5,k6⟩:=t2;exact ⟨g,off,cap,cur,rfl,k1,(key _ _ _ _ k2).2,k3,k4,k5,k6⟩
 ·have hl:=h.dm.lo;have he:=h.dm.ext.size;exact ((Below.refl n W).grown g1 (by omega) (fun k e=>by cases e; omega)).grown g2 (by omega) (fun k e=>by cases e; omega)
 ·rcases hf with h1 | h1 | ⟨cur',h1,h2⟩
  ·exact Or.inl h1
  ·exact Or.inr (Or.inl h1)
  ·exact Or.inr (Or.inr ⟨cur',back _ _ _ _ h1,h2⟩)
structure IStp where
 rule:Int
 to_:Int
 n:Int
deriving DecidableEq,Inhabited
def Stp.toI (s:Stp):IStp:=⟨s.rule,s.to_,s.n⟩
def IsIStp (_:World) (s:IStp) (cs:List Value):Prop:=cs=[.int .u8 s.rule,.int .i64 s.to_,.int .i64 s.n]/\0<=s.rule/\s.rule<=255/\-9223372036854775808<=s.to_/\s.to_<=9223372036854775807/\-9223372036854775808<=s.n/\s.n<=9223372036854775807
abbrev StepsW:=SlW IsIStp 3
theorem StepsW.mono {w w':World} {v:Value} {xs:List IStp} (hE:Ext w w') (h:StepsW w v xs):StepsW w' v xs:=SlW.mono (w:=w) (fun _ _ h=>h) hE h
theorem StepsW.le {w w':World} {v:Value} {xs:List IStp} (hE:CellLe w w') (h:StepsW w v xs):StepsW w' v xs:=SlW.le (w:=w) (fun _ _ h=>h) hE h
instance:Inhabited Stp:=⟨⟨0,0,0⟩⟩
def stpC (s:Stp):List Value:=[.int .u8 s.rule,.int .i64 s.to_,.int .i64 s.n]
def stpsC (l:List Stp):List Value:=(l.map stpC).flatten
theorem stpsC_snoc (l:List Stp) (s:Stp):stpsC (l++[s])=stpsC l++stpC s:=by unfold stpsC; simp
theorem stpsC_range (l:List Stp):stpsC l=((List.range l.length).map fun i=>stpC (nth l i)).flatten:=by
 unfold stpsC
 conv=>lhs; rw [<- range_map_nth l]
 rw [List.map_map]; rfl
theorem stepsRow_of_owns {w:World} {base g n cap:Nat} {l:List Stp} (h:w.ownsRow base 93 3 (.slice (some ⟨g,0,none⟩) n cap) l.length (stpsC l)):StepsRow w g l.length (nth l)/\n=l.length/\n<=cap/\base<=g:=by
 obtain ⟨hlen,h⟩:=h;rcases h with ⟨h,_⟩ | ⟨g',cap',cur,h,hb,hg,hnc,_,hcs,htake⟩
 ·cases h
 ·cases h;refine ⟨⟨cur,hg,fun p hp=>?_⟩,rfl,hnc,hb⟩;have hx:∀ j,j<3->cur[p*3+j]? = (stpC (nth l p))[j]? := fun j hj=>by
   have h1:=flat_get (fun i=>stpC (nth l i)) 3 l.length (fun i _=>rfl) p j hp hj;rw [<- stpsC_range,<- htake,List.getElem?_take,if_pos (by omega)] at h1
   simpa using h1
  exact ⟨hx 0 (by decide),hx 1 (by decide),hx 2 (by decide)⟩
theorem StepsRow.steps {w:World} {b cap:Nat} {l:List Stp} (h:StepsRow w b l.length (nth l)) (hc:l.length<=cap) (hm:l.length<=1000000) (hok:∀ s,s∈l->OkStp 400 s):StepsW w (.slice (some ⟨b,0,none⟩) l.length cap) (l.map Stp.toI):=by
 obtain ⟨cur,h1,h2⟩:=h;refine ⟨some ⟨b,0,none⟩,cap,by simp,by simpa using hc,by simp [maxBytes]; omega,fun i x hx=>?_⟩;have hi:i<l.length:=by have:=(List.getElem?_eq_some_iff.1 hx).1; simpa using this
 have hxe:x=(nth l i).toI:=by
  rw [List.getElem?_map,get_of_lt hi] at hx;exact (Option.some.inj hx).symm
 subst hxe;obtain ⟨e0,e1,e2⟩:=h2 i hi;obtain ⟨q1,q2,q3⟩:=hok _ (nth_mem hi);refine ⟨b,0,stpC (nth l i),rfl,⟨rfl,?_⟩,rfl,fun j u hu=>?_⟩
 ·show 0<=((nth l i).rule:Int)/\((nth l i).rule:Int)<=255/\(-9223372036854775808:Int)<=(nth l i).to_/\((nth l i).to_:Int)<=9223372036854775807/\(-9223372036854775808:Int)<=(nth l i).n/\((nth l i).n:Int)<=9223372036854775807
  omega
 ·rw [Nat.zero_add]
  match j,hu with
  | 0,hu=>cases hu; exact row_cell h1 e0
  | 1,hu=>cases hu; exact row_cell h1 e1
  | 2,hu=>cases hu; exact row_cell h1 e2
theorem MarksW.other {B b:Nat} {l:List Nat} {W W':World} (h:MarksW B l W) (hg:W.grownBy W' (some b)) (hb:b<B):MarksW B l W' :=
 ⟨h.nd,fun D hD=>⟨(h.each D hD).1,(hg.block D (row_lt (h.each D hD).2) (fun e=>by have e:=Option.some.inj e; have:=(h.each D hD).1; omega)).trans (h.each D hD).2⟩⟩
end Go.Proofs.YtjffkeoajkhbmaaGreat
