/- A table of truth values, a row of them, and a queue, in blocks of the call's own. Lists whose cells lie in a block of the call's own; a list appended to such a one. The reference's lists of references, and whether two lists have the same classes. -/
import Derived.Deep.Upon
import Derived.Laws.OwnMore
import Derived.Maps.AppendAt
import Derived.ProofKit
import Derived.StillTactics
import Derived.Test.YtjffkeoajkhbmaaGreatOW0
import Derived.Test.YtjffkeoajkhbmaaGreatOW8
import Derived.Test.YtjffkeoajkhbmaaGreatOW18
namespace Go.Proofs.YtjffkeoajkhbmaaGreat
set_option linter.unusedSimpArgs false
set_option linter.unusedVariables false
set_option maxRecDepth 100000
set_option maxHeartbeats 8000000
section
open Go.RowKit Go.Proofs
def bRow (n:Nat) (f:Nat->Bool):Array Value:=((List.range n).map fun j=>Value.bool (f j)).toArray
theorem bRow_at {n j:Nat} (f:Nat->Bool) (h:j<n):(bRow n f)[j]? = some (.bool (f j)):=by simp [bRow,h]
def RowT (w:World) (b n:Nat) (f:Nat->Bool):Prop:=w.heap[b]? = some (.cells (bRow n f) 4 (0,0))
theorem RowT.ext {w w':World} {b n:Nat} {f:Nat->Bool} (h:RowT w b n f) (hE:Ext w w'):RowT w' b n f:=(hE.block b (row_lt h)).trans h
theorem RowT.cell {w:World} {b n:Nat} {f:Nat->Bool} (h:RowT w b n f) {j:Nat} (hj:j<n):w.cell? ⟨b,j,none⟩=some (.bool (f j)):=row_cell h (bRow_at f hj)
theorem RowT.free {w:World} {b n:Nat} {f:Nat->Bool} (h:RowT w b n f) (j:Nat):w.frozen? ⟨b,j,none⟩=false:=row_free h j
theorem RowT.set {w:World} {b n:Nat} {f:Nat->Bool} (h:RowT w b n f) (j:Nat):RowT (w.setCell ⟨b,j,none⟩ (.bool true)) b n (mark f j):=by
 have:=row_set (j:=j) (v:=.bool true) h;unfold RowT;rw [this]
 congr 2
 unfold bRow mark;apply Array.ext
 ·simp
 ·intro i h1 h2;simp only [List.setIfInBounds_toArray,List.getElem_toArray,List.getElem_set,List.getElem_map,List.getElem_range];by_cases hij:i=j
  ·subst hij; simp
  ·rw [if_neg (fun e=>hij e.symm)];simp [beq_eq_false_iff_ne.2 hij]
theorem RowT.new (w:World) (n:Nat) (f:Nat->Bool):RowT (w.alloc (.cells (bRow n f) 4)) w.heap.size n f:=heap_alloc_new w _
def tRow (n k:Nat) (rb:Nat->Nat):Array Value:=((List.range n).map fun i=>if i<k then Value.slice (some ⟨rb i,0,none⟩) n n else .slice none 0 0).toArray
theorem infoB:(Tryz.prog.info? 4).map (fun i=>(i.zero,i.size,i.bytes))=some (some (.bool false),1,1):=by kernel_rfl
theorem infoR:(Tryz.prog.info? 64).map (fun i=>(i.zero,i.size,i.bytes))=some (some (.slice none 0 0),1,24):=by kernel_rfl
theorem makeRowT (n:Nat) (hn:n<=400) (w:World):(Instr.makeSlice 64 (.int .i64 n) (.int .i64 n)).run Tryz.prog w=.ok (.slice (some ⟨w.heap.size,0,none⟩) n n) (w.alloc (.cells (bRow n fun _=>false) 4)):=by
 obtain ⟨i0,hi,hz0,hz1,hz2⟩:=info_parts infoB;have:=run_make (P:=Tryz.prog) w 64 4 i0 (.bool false) Tryz.underlying64 hi hz0 .i64 .i64 n n (by omega) (Int.le_refl _) (by rw [hz2]; omega) (by omega);have hm:madeCells #[.bool false] n=bRow n fun _=>false:=by
  unfold madeCells bRow;apply Array.ext
  ·simp
  ·intro i h1 h2;simp [Nat.mod_one]
 rw [this,hz1];simp [Value.cells,hm]
theorem makeTab (n:Nat) (hn:n<=400) (w:World):(Instr.makeSlice 63 (.int .i64 n) (.int .i64 n)).run Tryz.prog w=.ok (.slice (some ⟨w.heap.size,0,none⟩) n n) (w.alloc (.cells (tRow n 0 fun _=>0) 64)):=by
 obtain ⟨i0,hi,hz0,hz1,hz2⟩:=info_parts infoR;have:=run_make (P:=Tryz.prog) w 63 64 i0 (.slice none 0 0) Tryz.underlying63 hi hz0 .i64 .i64 n n (by omega) (Int.le_refl _) (by rw [hz2]; omega) (by omega);have hm:madeCells #[.slice none 0 0] n=tRow n 0 fun _=>0:=by
  unfold madeCells tRow;apply Array.ext
  ·simp
  ·intro i h1 h2;simp [Nat.mod_one]
 rw [this,hz1];simp [Value.cells,hm]
structure Mat (w wr:World) (t n k:Nat) (rb:Nat->Nat) (F:Nat->Nat->Bool):Prop where
 ext:Ext w wr
 tab:wr.heap[t]? = some (.cells (tRow n k rb) 64 (0,0))
 lo:w.heap.size<=t
 row:∀ i,i<k->RowT wr (rb i) n (F i)
 rlo:∀ i,i<k->w.heap.size<=rb i
 inj:∀ i j,i<k->j<k->rb i=rb j->i=j
section
variable {w wr:World} {t n k:Nat} {rb:Nat->Nat} {F:Nat->Nat->Bool}
theorem Mat.new (h:Ext w wr) (n:Nat) (rb:Nat->Nat) (F:Nat->Nat->Bool):Mat w (wr.alloc (.cells (tRow n 0 fun _=>0) 64)) wr.heap.size n 0 rb F:=by
 refine ⟨h.trans (Ext.alloc _ _),?_,h.size,fun i hi=>absurd hi (Nat.not_lt_zero _),fun i hi=>absurd hi (Nat.not_lt_zero _),fun i j hi=>absurd hi (Nat.not_lt_zero _)⟩;have:tRow n 0 (fun _=>0)=tRow n 0 rb:=by simp [tRow]
 rw [this];exact heap_alloc_new _ _
theorem Mat.other {w2:World} (h:Mat w wr t n k rb F) (hE:Ext w w2) (hs:∀ j,(j=t\/∃ i,i<k/\j=rb i)->w2.heap[j]? = wr.heap[j]?):Mat w w2 t n k rb F :=
 ⟨hE,(hs t (Or.inl rfl)).trans h.tab,h.lo,fun i hi=>(hs _ (Or.inr ⟨i,hi,rfl⟩)).trans (h.row i hi),h.rlo,h.inj⟩
theorem Mat.mono {w2:World} (h:Mat w wr t n k rb F) (hE:Ext wr w2):Mat w w2 t n k rb F :=
 h.other (h.ext.trans hE) (fun j hj=>hE.block j (by rcases hj with rfl | ⟨i,hi,rfl⟩; exact row_lt h.tab; exact row_lt (h.row i hi)))
theorem Mat.net (h:Mat w wr t n k rb F) {i:Nat} (hi:i<k):rb i≠t:=fun e=>by
 have h1:=h.row i hi;unfold RowT at h1;rw [e,h.tab] at h1;injection h1 with h1
 injection h1 with _ h1 _
 cases h1
theorem Mat.tcell (h:Mat w wr t n k rb F) {i:Nat} (hi:i<k) (hn:i<n):wr.cell? ⟨t,i,none⟩=some (.slice (some ⟨rb i,0,none⟩) n n):=row_cell h.tab (by simp [tRow,hn,hi])
theorem Mat.add (h:Mat w wr t n k rb F) (hk:k<n) :
  Mat w ((wr.alloc (.cells (bRow n fun _=>false) 4)).setCell ⟨t,k,none⟩ (.slice (some ⟨wr.heap.size,0,none⟩) n n)) t n (k+1) (fun i=>if i=k then wr.heap.size else rb i) (fun i=>if i=k then fun _=>false else F i):=by
 have h1:=h.mono (Ext.alloc wr (.cells (bRow n fun _=>false) 4));have ht:t<wr.heap.size:=row_lt h.tab;refine ⟨Below.setCell h1.ext h.lo _,?_,h.lo,fun i hi=>?_,fun i hi=>?_,fun i j hi hj e=>?_⟩
 ·have:=row_set (j:=k) (v:=.slice (some ⟨wr.heap.size,0,none⟩) n n) h1.tab;rw [this]
  congr 2
  unfold tRow;apply Array.ext
  ·simp
  ·intro i h1 h2;simp only [List.setIfInBounds_toArray,List.getElem_toArray,List.getElem_set,List.getElem_map,List.getElem_range];by_cases hij:i=k
   ·subst hij; simp
   ·rw [if_neg (fun e=>hij e.symm),if_neg hij];by_cases hik:i<k
    ·rw [if_pos hik,if_pos (by omega)]
    ·rw [if_neg hik,if_neg (by omega)]
 ·by_cases e:i=k
  ·simp only [e,if_true];exact (Below.heap_setCell _ _ _ _ (by show wr.heap.size≠t; omega)).trans (RowT.new wr n _)
  ·simp only [if_neg e];exact (Below.heap_setCell _ _ _ _ (h.net (show i<k by omega))).trans (h1.row i (by omega))
 ·by_cases e:i=k
  ·simp only [e,if_true]; exact h.ext.size
  ·simp only [if_neg e]; exact h.rlo i (by omega)
 ·have hlt:∀ i,i<k->rb i<wr.heap.size:=fun i hi=>row_lt (h.row i hi);by_cases e1:i=k
  ·by_cases e2:j=k
   ·omega
   ·simp only [e1,if_true,if_neg e2] at e;have:=hlt j (by omega); omega
  ·by_cases e2:j=k
   ·simp only [e2,if_true,if_neg e1] at e;have:=hlt i (by omega); omega
   ·simp only [if_neg e1,if_neg e2] at e;exact h.inj i j (by omega) (by omega) e
theorem Mat.set (h:Mat w wr t n k rb F) {x:Nat} (hx:x<k) (y:Nat):Mat w (wr.setCell ⟨rb x,y,none⟩ (.bool true)) t n k rb (fun i=>if i=x then mark (F x) y else F i):=by
 refine ⟨Below.setCell h.ext (h.rlo x hx) _,(Below.heap_setCell _ _ _ _ (fun e=>h.net hx e.symm)).trans h.tab,h.lo,fun i hi=>?_,h.rlo,h.inj⟩;by_cases e:i=x
 ·subst e;simp only [if_true];exact (h.row i hi).set y
 ·simp only [if_neg e];exact (Below.heap_setCell _ _ _ _ (fun e2=>e (h.inj i x hi hx e2))).trans (h.row i hi)
end
structure Bfs (w wr:World) (t n:Nat) (rb:Nat->Nat) (F:Nat->Nat->Bool) (sb:Nat) (S:Nat->Bool) (v:Value) (Q:List Nat):Prop where
 mat:Mat w wr t n n rb F
 seen:RowT wr sb n S
 slo:w.heap.size<=sb
 sne:∀ i,i<n->rb i≠sb
 que:Tail wr w.heap.size v Q
section
variable {w wr:World} {t n:Nat} {rb:Nat->Nat} {F:Nat->Nat->Bool} {sb:Nat} {S:Nat->Bool} {v:Value} {Q:List Nat}
theorem Bfs.net (h:Bfs w wr t n rb F sb S v Q):t≠sb:=fun e=>by
 have h1:=h.seen;unfold RowT at h1;rw [<- e,h.mat.tab] at h1;injection h1 with h1
 injection h1 with _ h1 _
 cases h1
theorem Bfs.mono {w2:World} (h:Bfs w wr t n rb F sb S v Q) (hE:Ext wr w2):Bfs w w2 t n rb F sb S v Q:=⟨h.mat.mono hE,h.seen.ext hE,h.slo,h.sne,h.que.ext hE⟩
theorem Bfs.mark (h:Bfs w wr t n rb F sb S v Q) (u:Nat):Bfs w (wr.setCell ⟨sb,u,none⟩ (.bool true)) t n rb F sb (mark S u) v Q :=
 ⟨h.mat.other (Below.setCell h.mat.ext h.slo _) (fun j hj=>Below.heap_setCell _ _ _ _ (by rcases hj with rfl | ⟨i,hi,rfl⟩; exact h.net; exact h.sne i hi)),h.seen.set u,h.slo,h.sne,h.que.setOther h.seen (by decide)⟩
theorem Bfs.push {w2:World} {v':Value} {Q':List Nat} {g:Nat} {cur:Array Value} (h:Bfs w wr t n rb F sb S v Q) (hg:wr.grownBy w2 (some g)) (hgb:w.heap.size<=g) (hc:wr.heap[g]? = some (.cells cur 3 (0,0))) (hT:Tail w2 w.heap.size v' Q') :
  Bfs w w2 t n rb F sb S v' Q':=by
 have hne:∀ (j:Nat) (cs:Array Value) (T:TypeId),wr.heap[j]? = some (.cells cs T (0,0))->T≠3->some j≠some g:=fun j cs T hj hT e=>by
  cases e;rw [hc] at hj;injection hj with hj
  injection hj with _ hj _
  exact hT hj.symm
 exact ⟨h.mat.other (h.mat.ext.grown hg h.mat.ext.size (fun q e=>by cases e; exact hgb)) (fun j hj=>by
   rcases hj with rfl | ⟨i,hi,rfl⟩
   ·exact hg.block _ (row_lt h.mat.tab) (hne _ _ _ h.mat.tab (by decide))
   ·exact hg.block _ (row_lt (h.mat.row i hi)) (hne _ _ _ (h.mat.row i hi) (by decide))),
  (hg.block _ (row_lt h.seen) (hne _ _ _ h.seen (by decide))).trans h.seen,h.slo,h.sne,hT⟩
theorem Bfs.pop {v2:Value} {Q':List Nat} (h:Bfs w wr t n rb F sb S v Q) (hT:Tail wr w.heap.size v2 Q'):Bfs w wr t n rb F sb S v2 Q':=⟨h.mat,h.seen,h.slo,h.sne,hT⟩
theorem Bfs.start (h:Mat w wr t n n rb F) (a:Nat):Bfs w ((wr.alloc (.cells (bRow n fun _=>false) 4)).alloc (.cells #[.int .i64 a] 3)) t n rb F wr.heap.size (fun _=>false) (.slice (some ⟨wr.heap.size+1,0,none⟩) 1 1) [a] :=
 ⟨(h.mono (Ext.alloc _ _)).mono (Ext.alloc _ _),(RowT.new wr n _).ext (Ext.alloc _ _),h.ext.size,fun i hi=>by have:=row_lt (h.row i hi); omega,
  ⟨wr.heap.size+1,0,1,_,rfl,by have:=h.ext.size; omega,heap_alloc2 _ _ _,by simp,by unfold maxLen; omega,Or.inr ⟨by simp,by simp⟩,fun i x hx=>by
   match i,hx with
   | 0,hx=>simp at hx; subst hx; simp⟩⟩
end
structure PushT (W W':World) (B:Nat) (v v':Value) (xs:List Nat) (y:Nat):Prop where
 tail:Tail W' B v' (xs++[y])
 step:∃ g cur,v.ownBlock=some g/\W.heap[g]? = some (.cells cur 3 (0,0))/\W.grownBy W' (some g)
theorem PushT.bfs {w wr W':World} {t n:Nat} {rb:Nat->Nat} {F:Nat->Nat->Bool} {sb:Nat} {S:Nat->Bool} {v v':Value} {Q:List Nat} {y:Nat} (h:PushT wr W' w.heap.size v v' Q y) (hB:Bfs w wr t n rb F sb S v Q):Bfs w W' t n rb F sb S v' (Q++[y]):=by
 obtain ⟨g,cur,h1,h2,h3⟩:=h.step;exact hB.push h3 (hB.que.own h1) h2 h.tail
theorem wpList_append_tail {W:World} {ops:Array Oper} {rest:List Oper} {o:Oper} {a:Act} {Q:Exit->Act->World->Prop}
  (hg:o.guard=none) (s x:Operand) (hop:o.op=Op.call { callee:=Callee.builtin Builtin.append,args:=#[s,x],argTypes:=#[35,35] }) (hty:o.type=35) {B:Nat} {v:Value} {xs:List Nat} (hT:Tail W B v xs) (ad:Addr) (y:Nat)
  (hs:a.eval s=v) (hx:a.eval x=.slice (some ad) 1 1) (hy:W.cell? ad=some (.int .i64 (y:Nat))) (ha:ad.spot=none) (hn:xs.length<1000000) (hB:B<=W.heap.size)
  (hK:∀ v' W',PushT W W' B v v' xs y->wpList Tryz.prog ops Q rest (a.put o.dst v') W') :
  wpList Tryz.prog ops Q (o :: rest) a W:=by
 refine wpList_plain hg fun K hK'=>?_;obtain ⟨v',W',hrun,r1,g,cur,r2,r3,r4,_⟩:=run_append_tail hT ad y hy ha hn hB;unfold Oper.wp execOp;simp only [hop,hty,resolve,invoke,builtin,Sem.run_bind,Sem.run_pure,Result.andThen_ok,List.map_toArray,List.map_cons,List.map_nil,hs,hx,hrun];exact hK' _ _ (hK v' W' ⟨r1,g,cur,r2,r3,r4⟩)
end
section
open Go.RowKit Go.Proofs
theorem flat_at {sz:Nat}:∀ {css:List (List Value)} {i:Nat} {cs:List Value} {j:Nat},(∀ c,c∈css->c.length=sz)->css[i]? = some cs->j<sz->css.flatten[i*sz+j]? = cs[j]?
 | c :: css,0,cs,j,h,hi,hj=>by
  have hc:=h c (by simp);simp only [List.getElem?_cons_zero,Option.some.injEq] at hi;subst hi;rw [List.flatten_cons,Nat.zero_mul,Nat.zero_add,List.getElem?_append_left (by omega)]
 | c :: css,i+1,cs,j,h,hi,hj=>by
  have hc:=h c (by simp);simp only [List.getElem?_cons_succ] at hi;rw [List.flatten_cons,Nat.succ_mul,List.getElem?_append_right (by omega),<- flat_at (fun c hc=>h c (by simp [hc])) hi hj]
  congr 1
  omega
 | [],_,_,_,_,hi,_=>by simp at hi
theorem flat_len {sz:Nat}:∀ {css:List (List Value)},(∀ c,c∈css->c.length=sz)->css.flatten.length=css.length*sz
 | [],_=>by simp
 | c :: css,h=>by
  rw [List.flatten_cons,List.length_append,flat_len (fun c hc=>h c (by simp [hc])),h c (by simp),List.length_cons,Nat.succ_mul];omega
def OwnL {α:Type} (R:α->List Value->Prop) (e:TypeId) (sz:Nat) (w:World) (base:Nat) (v:Value) (xs:List α):Prop :=
 ∃ css:List (List Value),css.length=xs.length/\(∀ (i:Nat) x cs,xs[i]? = some x->css[i]? = some cs->R x cs)/\(∀ c,c∈css->c.length=sz)/\w.ownsRow base e sz v xs.length css.flatten
section
variable {α:Type} {R:α->List Value->Prop} {e:TypeId} {sz:Nat} {w:World} {base:Nat} {v:Value} {xs ys:List α}
theorem OwnL.slw (h:OwnL R e sz w base v xs) (hb:xs.length*(8*sz)<=maxBytes):SlW (fun _=>R) sz w v xs:=by
 obtain ⟨css,hl,hR,hsz,hown⟩:=h;have key:∀ b,v.ownBlock=some b->∀ (i:Nat) x,xs[i]? = some x->∃ cs,R x cs/\cs.length=sz/\∀ j u,cs[j]? = some u->w.cell? ⟨b,0+i*sz+j,none⟩=some u:=fun b hvb i x hi=>by
  have hil:=(List.getElem?_eq_some_iff.1 hi).1;obtain ⟨cs,hcs⟩:∃ cs,css[i]? = some cs:=⟨_,List.getElem?_eq_getElem (by omega)⟩;refine ⟨cs,hR i x cs hi hcs,hsz cs (List.mem_of_getElem? hcs),fun j u hj=>?_⟩;have hjl:j<sz:=by have:=(List.getElem?_eq_some_iff.1 hj).1; have:=hsz cs (List.mem_of_getElem? hcs); omega
  have:=hown.cells hvb (i*sz+j) u (by rw [flat_at hsz hcs hjl]; exact hj);rw [Addr.add_lit] at this;rw [Nat.zero_add] at this ⊢;exact this
 rcases id hown.2 with ⟨rfl,h0⟩ | ⟨g,cap,cur,rfl,_,_,hc,_,_,_⟩
 ·have:xs=[]:=List.eq_nil_of_length_eq_zero h0;subst this;exact SlW.nil _ _ _
 ·exact ⟨_,_,rfl,hc,hb,fun i x hi=>by
   obtain ⟨cs,k1,k2,k3⟩:=key g rfl i x hi;exact ⟨g,0,cs,rfl,k1,k2,k3⟩⟩
theorem OwnL.lt (h:OwnL R e sz w base v xs):∀ k,v.ownBlock=some k->base<=k/\k<w.heap.size:=by
 obtain ⟨css,hl,hR,hsz,hown⟩:=h;exact hown.lt
theorem OwnL.kept {w':World} {row:Option Nat} (h:OwnL R e sz w base v xs) (hg:w.grownBy w' row) (hne:v.ownBlock=none\/v.ownBlock≠row):OwnL R e sz w' base v xs:=by
 obtain ⟨css,hl,hR,hsz,hown⟩:=h;exact ⟨css,hl,hR,hsz,hown.kept hg hne⟩
theorem OwnL.nil (w:World):OwnL R e sz w base (.slice none 0 0) ([]:List α):=⟨[],rfl,fun i x cs h=>by simp at h,fun c h=>by simp at h,World.ownsRow_nil _ _ _ _⟩
theorem OwnL.made (w:World) (cur:Array Value) (cap:Nat) (hb:base<=w.heap.size) (hm:cap<=maxLen) (hs:cur.size=cap*sz):OwnL R e sz (w.alloc (.cells cur e)) base (.slice (some ⟨w.heap.size,0,none⟩) 0 cap) ([]:List α) :=
 ⟨[],rfl,fun i x cs h=>by simp at h,fun c h=>by simp at h,World.ownsRow_made w cur cap hb hm hs⟩
theorem SlW.flat {a:Addr} {n c:Nat} (h:SlW (fun _=>R) sz w (.slice (some a) n c) xs):∃ css:List (List Value),css.length=xs.length/\(∀ (i:Nat) x cs,xs[i]? = some x->css[i]? = some cs->R x cs)/\(∀ c,c∈css->c.length=sz)/\∀ j u,css.flatten[j]? = some u->w.cell? (a.add j)=some u:=by
 obtain ⟨a',c',he,hlc,hb,hx⟩:=h;cases he;have key:∀ k,k<=xs.length->∃ css:List (List Value),css.length=k/\(∀ (i:Nat) x cs,xs[i]? = some x->css[i]? = some cs->R x cs)/\(∀ c,c∈css->c.length=sz)/\∀ j u,css.flatten[j]? = some u->w.cell? (a.add j)=some u:=by
  intro k
  induction k with
  | zero=>exact fun _=>⟨[],rfl,fun i x cs _ h=>by simp at h,fun c h=>by simp at h,fun j u h=>by simp at h⟩
  | succ k ih =>
   intro hk;obtain ⟨css,h1,h2,h3,h4⟩:=ih (by omega);obtain ⟨x,hi⟩:∃ x,xs[k]? = some x:=⟨_,List.getElem?_eq_getElem (by omega)⟩;obtain ⟨b,off,cs,ha,hr,hl,hc⟩:=hx k x hi;cases ha;refine ⟨css++[cs],by simp [h1],fun i y ds hy hd=>?_,fun c hc=>?_,fun j u hu=>?_⟩
   ·rcases Nat.lt_or_ge i css.length with hlt | hge
    ·rw [List.getElem?_append_left hlt] at hd;exact h2 i y ds hy hd
    ·have hil:=(List.getElem?_eq_some_iff.1 hd).1;simp at hil;have:i=k:=by omega
     subst this;rw [List.getElem?_append_right (by omega),h1] at hd;simp at hd;subst hd;rw [hi] at hy;cases hy;exact hr
   ·rcases List.mem_append.1 hc with h | h
    ·exact h3 c h
    ·rw [List.mem_singleton.1 h]; exact hl
   ·rw [List.flatten_append] at hu;have hfl:=flat_len h3;rw [h1] at hfl;rcases Nat.lt_or_ge j (k*sz) with hlt | hge
    ·rw [List.getElem?_append_left (by omega)] at hu;exact h4 j u hu
    ·rw [List.getElem?_append_right (by omega),hfl] at hu;simp only [List.flatten_cons,List.flatten_nil,List.append_nil] at hu;have:=hc _ u hu;rw [Addr.add_lit,show off+j=off+k*sz+(j-k*sz) by omega];exact this
 exact key xs.length (Nat.le_refl _)
end
theorem run_append_list {P:Program} {α:Type} {R:α->List Value->Prop} {w:World} {xs ys:List α} (base:Nat) (t ty e:TypeId) (i:TypeInfo) (z:Value) (size bytes:Nat) (ht:P.underlying t=some (.slice e)) (hi:P.info? e=some i) (hz:i.zero=some z)
  (hsize:i.size=size) (hby:i.bytes=bytes) (hzs:z.cells.size=size) (hsz:0<size) (v x:Value) (hown:OwnL R e size w base v xs) (hx:SlW (fun _=>R) size w x ys) (hone:∀ y cs,R y cs->∀ u,u∈cs->u.oneCell'=true)
  (h63:xs.length+ys.length<=maxLen) (hbytes:(xs.length+ys.length)*bytes<=140737488355328) (hbase:base<=w.heap.size) :
  ∃ v' w',(Builtin.append_ #[t,t] ty #[v,x]).run P w=.ok v' w'/\OwnL R e size w' base v' (xs++ys)/\w.grownBy w' v.ownBlock/\(v'.ownBlock=v.ownBlock\/v'.ownBlock=some w.heap.size):=by
 obtain ⟨xa,xc,rfl,hxc,hxb,hx1⟩:=id hx;obtain ⟨css,hl,hR,hcs,hrow⟩:=id hown;cases xa with
 | none =>
  have h0:ys=[]:=by
   cases ys with
   | nil=>rfl
   | cons y ys =>
    obtain ⟨b,off,cs,hn,_⟩:=hx1 0 y rfl;cases hn
  subst h0;refine ⟨v,w,?_,by rw [List.append_nil]; exact hown,⟨rfl,rfl,rfl,Nat.le_refl _,fun _ _ _=>rfl⟩,Or.inl rfl⟩;rcases id hrow.2 with ⟨rfl,h0⟩ | ⟨g,cap,cur,rfl,_,_,hc,_,_,_⟩
  ·exact run_append_nothing w t t ty e i ht hi none 0 0 (Nat.le_refl _) _ (Src.ofNil w ht xc)
  ·exact run_append_nothing w t t ty e i ht hi _ _ cap hc _ (Src.ofNil w ht xc)
 | some ad =>
  obtain ⟨dss,dl,dR,ds,dc⟩:=SlW.flat hx;have hd1:∀ u,u∈dss.flatten->u.oneCell'=true:=fun u hu=>by
   obtain ⟨cs,hc,hu⟩:=List.mem_flatten.1 hu;obtain ⟨k,hk,hke⟩:=List.mem_iff_getElem.1 hc;exact hone _ cs (dR k _ cs (List.getElem?_eq_getElem (by omega)) (by rw [List.getElem?_eq_getElem hk,hke])) u hu
  obtain ⟨v',w',hr,h2,h3,h4,h5⟩:=run_append_own_at (P:=P) w base t ty e i z size bytes ht hi hz hsize hby hzs hsz v xs.length css.flatten hrow ad ys.length xc dss.flatten (by rw [flat_len ds,dl]) dc hd1 h63 hbytes hbase;refine ⟨v',w',hr,⟨css++dss,by simp [hl,dl],fun k x cs hk hc=>?_,fun c hc=>?_,?_⟩,h3,h5⟩
  ·rcases Nat.lt_or_ge k xs.length with hlt | hge
   ·rw [List.getElem?_append_left (by omega)] at hk hc;exact hR k x cs hk hc
   ·rw [List.getElem?_append_right (by omega)] at hk hc;rw [hl] at hc;exact dR _ x cs hk hc
  ·rcases List.mem_append.1 hc with h | h
   ·exact hcs c h
   ·exact ds c h
  ·rw [List.flatten_append,List.length_append];exact h2
theorem wp_append_list {P:Program} {o:Oper} {a:Act} {w:World} {K:Act->World->Prop} {Q:Exit->Act->World->Prop} {α:Type} {R:α->List Value->Prop} {xs ys:List α} (s x:Operand) (t:TypeId)
  (ho:o.op=.call { callee:=.builtin .append,args:=#[s,x],argTypes:=#[t,t] })
  (base:Nat) (e:TypeId) (i:TypeInfo) (z:Value) (size bytes:Nat) (ht:P.underlying t=some (.slice e)) (hi:P.info? e=some i) (hz:i.zero=some z)
  (hsize:i.size=size) (hby:i.bytes=bytes) (hzs:z.cells.size=size) (hsz:0<size)
  (v xv:Value) (hs:a.eval s=v) (hown:OwnL R e size w base v xs) (hx:a.eval x=xv) (hsl:SlW (fun _=>R) size w xv ys) (hone:∀ y cs,R y cs->∀ u,u∈cs->u.oneCell'=true)
  (h63:xs.length+ys.length<=maxLen) (hbytes:(xs.length+ys.length)*bytes<=140737488355328) (hbase:base<=w.heap.size)
  (h:∀ v' w',OwnL R e size w' base v' (xs++ys)->w.grownBy w' v.ownBlock->(v'.ownBlock=v.ownBlock\/v'.ownBlock=some w.heap.size)->K (a.put o.dst v') w') :
  o.wp P a w K Q:=by
 obtain ⟨v',w',hr,h2,h3,h4⟩:=run_append_list (P:=P) base t o.type e i z size bytes ht hi hz hsize hby hzs hsz v xv hown hsl hone h63 hbytes hbase;unfold Oper.wp execOp;simp only [ho,resolve,invoke,builtin,Sem.run_bind,Sem.run_pure,Result.andThen_ok,List.map_toArray,List.map_cons,List.map_nil,hs,hx,hr];exact h v' w' h2 h3 h4
end
section
open Go.RowKit Go.Proofs
def IntC (x:Int) (cs:List Value):Prop:=cs=[.int .i64 x]/\-9223372036854775808<=x/\x<=9223372036854775807
theorem int_cells:∀ y cs,IntC y cs->∀ u,u∈cs->u.oneCell'=true:=fun y cs h u hu=>by
 obtain ⟨rfl,_⟩:=h;simp only [List.mem_cons,List.not_mem_nil,or_false] at hu;subst hu; rfl
theorem one_int {w:World} (x:Int) (h:-9223372036854775808<=x/\x<=9223372036854775807):SlW (fun _=>IntC) 1 (w.alloc (.cells #[.int .i64 x] 3)) (.slice (some ⟨w.heap.size,0,none⟩) 1 1) [x] :=
 ⟨_,1,rfl,Nat.le_refl 1,by unfold maxBytes; simp,fun i y hy=>by
  match i,hy with
  | 0,hy =>
   cases hy;refine ⟨w.heap.size,0,_,rfl,⟨rfl,h⟩,rfl,fun j u hu=>?_⟩
   match j,hu with
   | 0,hu=>cases hu; exact cell_new1 _ _ _⟩
theorem own_later {α:Type} {R:α->List Value->Prop} {e:TypeId} {sz:Nat} {w w':World} {base:Nat} {v:Value} {xs:List α} (h:OwnL R e sz w base v xs) (hE:Ext w w'):OwnL R e sz w' base v xs:=by
 obtain ⟨css,hl,hR,hsz,hown⟩:=h;exact ⟨css,hl,hR,hsz,owns_ext hown hE⟩
theorem own_grown {α:Type} {R:α->List Value->Prop} {e:TypeId} {sz:Nat} {w w' w0:World} {v:Value} {xs:List α} (h:OwnL R e sz w w0.heap.size v xs) (hE:Ext w0 w) (hg:w.grownBy w' v.ownBlock):Ext w0 w' :=
 hE.grown hg hE.size (fun q e=>(h.lt q e).1)
theorem wpList_appendL {P:Program} {α:Type} {R:α->List Value->Prop} {xs ys:List α} {w:World} {ops:Array Oper} {rest:List Oper} {o:Oper} {a:Act} {Q:Exit->Act->World->Prop} (hgd:o.guard=none) (s x:Operand) (t:TypeId)
  (ho:o.op=.call { callee:=.builtin .append,args:=#[s,x],argTypes:=#[t,t] })
  (base:Nat) (e:TypeId) (i:TypeInfo) (z:Value) (size bytes:Nat) (ht:P.underlying t=some (.slice e)) (hi:P.info? e=some i) (hz:i.zero=some z)
  (hsize:i.size=size) (hby:i.bytes=bytes) (hzs:z.cells.size=size) (hsz:0<size)
  (v xv:Value) (hs:a.eval s=v) (hown:OwnL R e size w base v xs) (hx:a.eval x=xv) (hsl:SlW (fun _=>R) size w xv ys) (hone:∀ y cs,R y cs->∀ u,u∈cs->u.oneCell'=true)
  (h63:xs.length+ys.length<=maxLen) (hbytes:(xs.length+ys.length)*bytes<=140737488355328) (hbase:base<=w.heap.size)
  (h:∀ v' w',OwnL R e size w' base v' (xs++ys)->w.grownBy w' v.ownBlock->(v'.ownBlock=v.ownBlock\/v'.ownBlock=some w.heap.size)->wpList P ops Q rest (a.put o.dst v') w') :
  wpList P ops Q (o :: rest) a w:=by
 refine wpList_plain hgd fun K hK=>?_;exact wp_append_list s x t ho base e i z size bytes ht hi hz hsize hby hzs hsz v xv hs hown hx hsl hone h63 hbytes hbase (fun v' w' h1 h2 h3=>hK _ _ (h v' w' h1 h2 h3))
theorem nth_mapI {α β:Type} [Inhabited α] [Inhabited β] (f:α->β) {xs:List α} {i:Nat} (h:i<xs.length):nth (xs.map f) i=f (nth xs i):=by
 rw [nth_eq h,nth_eq (by simpa using h),List.getElem_map]
structure RefI (W wr:World) (v:Value) (l:List Int):Prop where
 ext:Ext W wr
 own:OwnL IntC 3 1 wr W.heap.size v l
theorem RefI.push {W wr W1 W2:World} {v v':Value} {l l':List Int} (h:RefI W wr v l) (hE:Ext wr W1) (hO:OwnL IntC 3 1 W2 W.heap.size v' l') (hg:W1.grownBy W2 v.ownBlock):RefI W W2 v' l' :=
 ⟨own_grown (own_later h.own hE) (h.ext.trans hE) hg,hO⟩
theorem len_of {xs ys l:List Int} (h:xs++ys <+: l) (hl:l.length<=100):xs.length+ys.length<=100:=by
 have:=h.length_le;rw [List.length_append] at this;omega
theorem refs_meth (x:Ty) {k:Nat} (h:k<x.methods.length):refsUpTo x k++(nth x.methods k).sig.args <+: refsOf x:=by
 refine List.IsPrefix.trans ?_ (refsUpTo_prefix x (k+1));rw [refsUpTo_succ x h];exact (List.prefix_append_right_inj _).2 (List.prefix_append _ _)
theorem refs129 (t:Ty) (hlen:(refsOf t).length<=100) (pa:Option Addr) (pl pc:Nat) (ma:Option Addr) (ml mc:Nat) (oa:Option Addr) (ol oc:Nat) (w:World)
  (hp:Parts w (.slice pa pl pc) t.parts) (hm:Meths w (.slice ma ml mc) t.methods) (hok:TyOk t) :
  Calls Tryz.prog 129 #[.agg (tyArr t pa pl pc ma ml mc oa ol oc)] w fun e w'=>∃ a n c,e=.returned (.slice a n c)/\Ints w' (.slice a n c) (refsOf t)/\Ext w w':=by
 have hpb:=(SlW.bound hp).2;have hmb:=(SlW.bound hm).2;obtain rfl:=SlW.len hp;obtain rfl:=SlW.len hm;obtain ⟨i0,hi,hz0,hz1,hz2⟩:=info_parts info3;have hs0:=hok.s0;have hs1:=hok.s1;have hpl:(t.parts.map (·.type)).length=t.parts.length:=List.length_map _;obtain ⟨W,hW⟩:∃ W:World,W=w.alloc (.cells (tyArr t pa t.parts.length pc ma t.methods.length mc oa ol oc) 50):=⟨_,rfl⟩;have HE:=dh (show Ext w W by rw [hW]; exact Ext.alloc _ _);have HB:=dh (show W.heap[w.heap.size]? = some (.cells (tyArr t pa t.parts.length pc ma t.methods.length mc oa ol oc) 50 (0,0)) by rw [hW]; exact heap_alloc_new _ _);have hWs:w.heap.size<W.heap.size:=by rw [hW,World.size_alloc]; omega
 have Hp:=dh (Parts.mono HE.out hp);have Hm:=dh (Meths.mono HE.out hm);have Hlen:=dh hlen;clear hp hm hok hlen
 go_enter Tryz.func129,Tryz.ntmps129
 go_upto_region 1 with (fail);rw [<- hW];clear hW;obtain ⟨b0,b1,b2,b3,b4,b5,b6,b7,b8,b9⟩:=tyBox_of HB.out;have hpre0:supersOf t <+: refsOf t:=by rw [refsOf_eq,List.append_assoc]; exact List.prefix_append _ _
 go_upto_region 2 with (fail);go_cut [13] from 70 (fun v wx=>v=.bool (hasSuperB t.kind)/\wx=W)
 case first =>
  cases k12:(t.kind==12)
  ·cases k13:(t.kind==13)
   ·have hs:=dh (show hasSuperB t.kind=false by unfold hasSuperB; rw [k12,k13]; rfl);go_wp2_with fail;go_meet;exact ⟨by rw [hs.out],rfl⟩
   ·have hs:=dh (show hasSuperB t.kind=true by unfold hasSuperB; rw [k12,k13]; rfl);go_wp2_with fail;go_meet;exact ⟨by rw [hs.out],rfl⟩
  ·have hs:=dh (show hasSuperB t.kind=true by unfold hasSuperB; rw [k12]; rfl);go_wp2_with fail;go_meet;exact ⟨by rw [hs.out],rfl⟩
 obtain ⟨rfl,rfl⟩:=hcut;rename World=>W;have hsup:=dh (show supersOf t=if hasSuperB t.kind then [t.super] else [] from rfl);generalize hasSuperB t.kind=hb at hsup;go_upto_if 13 with (fail);go_cut [3] from 70 (fun v wx=>Hid (RefI W wx v (supersOf t)))
 case first =>
  cases hb
  ·go_wp2_with fail;go_meet;exact ⟨Ext.refl _,by rw [hsup.out]; exact OwnL.nil _⟩
  ·go_wp2_with (at_builtin; refine wpList_appendL rfl (.tmp 14) (.tmp 17) 35 rfl W.heap.size 3 i0 (.int .i64 0) 1 8 Tryz.underlying35 hi hz0 hz1 hz2 rfl (by decide) _ _ rfl (OwnL.nil _) rfl (one_int _ ⟨hs0,hs1⟩) int_cells ?d01 ?d02 ?d03 ?_)
   case d01=>show 1<=maxLen; decide
   intro v' W2 hO2 hg2 hat2;have HR:=dh (RefI.push (⟨Ext.refl W,OwnL.nil _⟩:RefI W W (.slice none 0 0) []) (Ext.alloc _ _) hO2 hg2);clear hO2 hg2 hat2;go_wp2_with fail;go_meet;rw [hsup.out];exact HR.out
 case rest =>
  have HR:=hcut;clear hcut;go_upto_region 5 with (fail);go_loopw [3,4] (fun v i wr=>∃ k:Nat,k<=t.parts.length/\i=.int .i64 k/\Hid (RefI W wr v (supersOf t++(t.parts.map (·.type)).take k))) (fun _ i _=>t.parts.length-(intOf i).toNat)
  case atStart=>exact ⟨0,Nat.zero_le _,rfl,by rw [List.take_zero,List.append_nil]; exact HR⟩
  case round =>
   clear HR;obtain ⟨k,hk,rfl,HR⟩:=hrel;have HE2:=HR.out.ext;have c7:=HE2.cell b7;have c8:=HE2.cell b8;by_cases hlt:k<t.parts.length
   ·obtain ⟨b,off,hab,hbl,p0,p1,_,q0,q1⟩:=Parts.at (Parts.mono HE2 Hp.out) hlt;cases hab;have hpre:=dh (len_of (refs_parts t hlt) Hlen.out);have hsz:=HE2.size;clear HE2 c8 p0 hpre0;go_wp2_with (at_builtin; refine wpList_appendL rfl (.tmp 26) (.tmp 33) 35 rfl W.heap.size 3 i0 (.int .i64 0) 1 8 Tryz.underlying35 hi hz0 hz1 hz2 rfl (by decide) _ _ rfl (own_later HR.out.own (Ext.alloc _ _)) rfl (one_int _ ⟨q0,q1⟩) int_cells ?d11 ?d12 ?d13 ?_)
    case d11=>have:=hpre.out; unfold maxLen; simp only [List.length_singleton] at this ⊢; omega
    case d12=>have:=hpre.out; simp only [List.length_singleton] at this ⊢; omega
    case d13=>rw [World.size_alloc]; omega
    intro v' W2 hO2 hg2 hat2;have HR2:=dh (RefI.push HR.out (Ext.alloc _ _) hO2 hg2);rw [<- take_snoc_map (·.type) hlt] at HR2;clear hO2 hg2 hat2;go_wp2_with fail;go_roundw
    case rel=>exact ⟨k+1,by omega,by go_num,HR2⟩
    case measure=>simp [intOf]; omega
   ·have hkl:k=t.parts.length:=by omega
    subst hkl;rw [List.take_of_length_le (by rw [hpl]; exact Nat.le_refl _)] at HR;have HR:=dh (show RefI W wr u3 (refsUpTo t 0) by unfold refsUpTo; simpa using HR.out);clear HE2;go_upto_region 9 with (fail);clear c7;go_loopw [3,5] (fun v i wr=>∃ k:Nat,k<=t.methods.length/\i=.int .i64 k/\Hid (RefI W wr v (refsUpTo t k))) (fun _ i _=>t.methods.length-(intOf i).toNat)
    case atStart=>exact ⟨0,Nat.zero_le _,rfl,HR⟩
    case round =>
     clear HR c8;obtain ⟨k,hk,rfl,HR⟩:=hrel;have HE2:=HR.out.ext;have c8:=HE2.cell b8;by_cases hlt:k<t.methods.length
     ·obtain ⟨b,off,aa,al,ac,ra,rl,rc,hab,hbl,_,m1,m2,_,_,ha,_,q0,q1,_⟩:=Meths.at (Meths.mono HE2 Hm.out) hlt;cases hab;have hpre:=dh (len_of (refs_meth t hlt) Hlen.out);have hsz:=HE2.size;have Ha:=dh (show SlW (fun _=>IntC) 1 wr (.slice aa al ac) (nth t.methods k).sig.args from ha);clear HE2 ha;go_wp2_with (at_builtin; refine wpList_appendL rfl (.tmp 42) (.tmp 49) 35 rfl W.heap.size 3 i0 (.int .i64 0) 1 8 Tryz.underlying35 hi hz0 hz1 hz2 rfl (by decide) _ _ rfl HR.out.own rfl Ha.out int_cells ?d21 ?d22 ?d23 ?_)
      case d21=>have:=hpre.out; unfold maxLen; omega
      case d22=>have:=hpre.out; omega
      case d23=>omega
      intro v' W3 hO2 hg2 hat2;have HR2:=dh (RefI.push HR.out (Ext.refl _) hO2 hg2);clear hO2 hg2 hat2 c8 m1 m2;have HE3:=HR2.out.ext;have c8:=HE3.cell b8;obtain ⟨b,off,aa,al,ac,ra,rl,rc,hab,hbl,_,m1,m2,_,_,ha,_,q0,q1,_⟩:=Meths.at (Meths.mono HE3 Hm.out) hlt;cases hab;have hsz:=HE3.size;clear HE3 ha;rcases Int.lt_or_le (nth t.methods k).sig.result 0 with h0 | h0
      ·have Hn:=dh (refs_noResult t hlt (by omega));rw [Hn.out] at HR2;go_wp2_with fail;go_roundw
       case rel=>exact ⟨k+1,by omega,by go_num,HR2⟩
       case measure=>simp [intOf]; omega
      ·have Hn:=dh (refs_result t hlt h0);have hpre2:=dh (len_of (by rw [Hn.out]; exact refsUpTo_prefix t (k+1)) Hlen.out);go_wp2_with (at_builtin; refine wpList_appendL rfl (.tmp 59) (.tmp 67) 35 rfl W.heap.size 3 i0 (.int .i64 0) 1 8 Tryz.underlying35 hi hz0 hz1 hz2 rfl (by decide) _ _ rfl (own_later HR2.out.own (Ext.alloc _ _)) rfl (one_int _ ⟨q0,q1⟩) int_cells ?d31 ?d32 ?d33 ?_)
       case d31=>have:=hpre2.out; unfold maxLen; simp only [List.length_singleton] at this ⊢; omega
       case d32=>have:=hpre2.out; simp only [List.length_singleton] at this ⊢; omega
       case d33=>rw [World.size_alloc]; omega
       intro v5 W4 hO2 hg2 hat2;have HR3:=dh (RefI.push HR2.out (Ext.alloc _ _) hO2 hg2);rw [<- List.append_assoc,Hn.out] at HR3;clear hO2 hg2 hat2;go_wp2_with fail;go_roundw
       case rel=>exact ⟨k+1,by omega,by go_num,HR3⟩
       case measure=>simp [intOf]; omega
     ·have hkl:k=t.methods.length:=by omega
      subst hkl;rw [refsUpTo_all] at HR;have hI:Ints wr u3 (refsOf t):=HR.out.own.slw (by have:=Hlen.out; unfold maxBytes; omega);obtain ⟨a,c,rfl,_⟩:=id hI;have HI:=dh hI;clear hI;go_wp2_with fail;go_ret;exact ⟨_,_,_,rfl,HI.out,HE.out.trans HR.out.ext⟩
theorem alike128 (ca:Option Addr) (n cc:Nat) (C:Nat->Nat) (w:World) (hC:Ints w (.slice ca n cc) ((List.range n).map fun i=>(C i:Int))) (xa:Option Addr) (xn xc:Nat) (xs:List Int) (hx:Ints w (.slice xa xn xc) xs) (ya:Option Addr) (yn yc:Nat) (ys:List Int)
  (hy:Ints w (.slice ya yn yc) ys) (hxi:∀ x,x∈xs->0<=x/\x<n) (hyi:∀ x,x∈ys->0<=x/\x<n) :
  Calls Tryz.prog 128 #[.slice ca n cc,.slice xa xn xc,.slice ya yn yc] w fun e w' =>
   e=.returned (.bool (sameB (fun (x y:Int)=>x==y) (xs.map fun r=>(C r.toNat:Int)) (ys.map fun r=>(C r.toNat:Int))))/\Ext w w':=by
 have hxb:=(SlW.bound hx).2;have hyb:=(SlW.bound hy).2;obtain rfl:=SlW.len hx;obtain rfl:=SlW.len hy;obtain ⟨res,hres⟩:∃ b,b=sameB (fun (x y:Int)=>x==y) (xs.map fun r=>(C r.toNat:Int)) (ys.map fun r=>(C r.toNat:Int)):=⟨_,rfl⟩;rw [<- hres];by_cases hl:xs.length=ys.length;rotate_left
 ·have hb:((xs.length:Int) != ys.length)=true:=by simp; omega
  have Hr:=dh (show res=false by rw [hres]; exact sameB_of_len (by simpa using hl));clear hres hl
  go_enter Tryz.func128,Tryz.ntmps128
  go_wp2_with fail;go_ret;exact ⟨ret_bool Hr.out.symm,Ext.refl _⟩
 have Hf:=dh (show ∀ k,k<xs.length->((C (nth xs k).toNat:Int)==(C (nth ys k).toNat:Int))=false->res=false from fun k hk h=>by
  rw [hres];exact sameB_false (by simpa using hl) (show k<(xs.map fun r=>(C r.toNat:Int)).length by simpa using hk) (by rw [nth_mapI _ hk,nth_mapI _ (by omega)]; exact h))
 have Ht:=dh (show (∀ k,k<xs.length->((C (nth xs k).toNat:Int)==(C (nth ys k).toNat:Int))=true)->res=true from fun h=>by
  rw [hres];exact sameB_true (by simpa using hl) (fun k hk=>by
   have hk:k<xs.length:=by simpa using hk
   rw [nth_mapI _ hk,nth_mapI _ (by omega)]; exact h k hk))
 have Hc:=dh (show ∀ m:Nat,m<n->∃ b off,ca=some ⟨b,off,none⟩/\w.cell? ⟨b,off+m,none⟩=some (.int .i64 (C m)) from fun m hm=>by
  obtain ⟨b,off,ha,_,hc,_⟩:=Ints.at hC hm;rw [nth_eq (by simpa using hm)] at hc;simp only [List.getElem_map,List.getElem_range] at hc;exact ⟨b,off,ha,hc⟩)
 have Hx:=dh hx;have Hy:=dh hy;have Hxi:=dh hxi;have Hyi:=dh hyi;clear hx hy hxi hyi hC hres;have hb:((xs.length:Int) != ys.length)=false:=by simp; omega
 have Hl:=dh hl;clear hl
 go_enter Tryz.func128,Tryz.ntmps128
 go_upto_region 4 with (fail);go_loopw [7] (fun i wr=>∃ k:Nat,k<=xs.length/\i=.int .i64 k/\Hid (Ext w wr/\∀ j,j<k->((C (nth xs j).toNat:Int)==(C (nth ys j).toNat:Int))=true)) (fun i _=>xs.length-(intOf i).toNat)
 case atStart=>exact ⟨0,Nat.zero_le _,rfl,dh ⟨Ext.refl _,fun j hj=>absurd hj (Nat.not_lt_zero _)⟩⟩
 case round =>
  obtain ⟨k,hk,rfl,hH⟩:=hrel;by_cases hlt:k<xs.length
  ·have hkl:k<ys.length:=by have:=Hl.out; omega
   obtain ⟨b,off,hab,hbl,cx,_,_⟩:=Ints.at (Ints.mono hH.out.1 Hx.out) hlt;cases hab;obtain ⟨b2,off2,hab2,hbl2,cy,_,_⟩:=Ints.at (Ints.mono hH.out.1 Hy.out) hkl;cases hab2;have h1:=Hxi.out _ (nth_mem hlt);have h2:=Hyi.out _ (nth_mem hkl);have Hff:=dh (Hf.out k hlt);have Htt:=dh (show ((C (nth xs k).toNat:Int)==(C (nth ys k).toNat:Int))=true->∀ j,j<k+1->((C (nth xs j).toNat:Int)==(C (nth ys j).toNat:Int))=true from fun h j hj=>by
    by_cases hjk:j=k
    ·rw [hjk]; exact h
    ·exact hH.out.2 j (by omega))
   obtain ⟨x,hx⟩:∃ x:Nat,nth xs k=x:=⟨(nth xs k).toNat,(Int.toNat_of_nonneg h1.1).symm⟩;obtain ⟨y,hy⟩:∃ y:Nat,nth ys k=y:=⟨(nth ys k).toNat,(Int.toNat_of_nonneg h2.1).symm⟩;rw [hx] at cx h1;rw [hy] at cy h2;rw [hx,hy,Int.toNat_natCast,Int.toNat_natCast] at Hff Htt;clear hx hy;have hxn:x<n:=by omega
   have hyn:y<n:=by omega
   obtain ⟨b3,off3,hab3,dx⟩:=Hc.out x hxn;cases hab3;obtain ⟨b4,off4,hab4,dy⟩:=Hc.out y hyn;cases hab4;have dx:=hH.out.1.cell dx;have dy:=hH.out.1.cell dy;cases heq:((C x:Int)==(C y:Int))
   ·have hne:((C x:Int) != (C y:Int))=true:=by unfold bne; rw [heq]; rfl
    have Hr:=dh (Hff.out heq);clear heq;go_upto_region 6 with (fail)
    go_still (by kernel_rfl)
    go_wp2_with fail;go_ret;exact ⟨ret_bool Hr.out.symm,hH.out.1.trans (Ext.drew _)⟩
   ·have hne:((C x:Int) != (C y:Int))=false:=by unfold bne; rw [heq]; rfl
    have Hr:=dh (Htt.out heq);clear heq;go_upto_region 6 with (fail)
    go_still (by kernel_rfl)
    go_wp2_with fail;go_roundw
    case rel=>exact ⟨k+1,by omega,by go_num,dh ⟨hH.out.1.trans (Ext.drew _),Hr.out⟩⟩
    case measure=>simp [intOf]; omega
  ·have Hr:=dh (Ht.out (fun j hj=>hH.out.2 j (by omega)));go_wp2_with fail;go_ret;exact ⟨ret_bool Hr.out.symm,hH.out.1⟩
end
end Go.Proofs.YtjffkeoajkhbmaaGreat
