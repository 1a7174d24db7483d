/- The law SubLaws: in plain Lean, and walked. -/
import Derived.Test.YtjffkeoajkhbmaaGreatOX1
import Derived.Test.YtjffkeoajkhbmaaGreatOX32
namespace Go.Proofs.YtjffkeoajkhbmaaGreat
set_option linter.unusedSimpArgs false
set_option linter.unusedVariables false
set_option maxRecDepth 100000
set_option maxHeartbeats 8000000
open Go.RowKit Go.Proofs Go.Shelf
def lieB (g:List Ty) (rs:List Reveal) (a b:Nat):Bool:=(nth (reachL g rs g.length) a).testBit b
def boolRow (n:Nat) (f:Nat->Bool):Array Value:=((List.range n).map fun j=>Value.bool (f j)).toArray
theorem boolRow_at {n j:Nat} (f:Nat->Bool) (h:j<n):(boolRow n f)[j]? = some (.bool (f j)):=by simp [boolRow,h]
def RowB (w:World) (b n:Nat) (f:Nat->Bool):Prop:=w.heap[b]? = some (.cells (boolRow n f) 4 (0,0))
theorem RowB.ext {w w':World} {b n:Nat} {f:Nat->Bool} (h:RowB w b n f) (hE:Ext w w'):RowB w' b n f:=(hE.block b (row_lt h)).trans h
theorem RowB.cell {w:World} {b n:Nat} {f:Nat->Bool} (h:RowB w b n f) {j:Nat} (hj:j<n):w.cell? ⟨b,j,none⟩=some (.bool (f j)):=row_cell h (boolRow_at f hj)
theorem RowB.free {w:World} {b n:Nat} {f:Nat->Bool} (h:RowB w b n f) (j:Nat):w.frozen? ⟨b,j,none⟩=false:=by
 unfold World.frozen?;rw [show w.heap[(⟨b,j,none⟩:Addr).block]? = _ from h];simp
theorem RowB.set {w:World} {b n:Nat} {f:Nat->Bool} (h:RowB w b n f) (j:Nat):RowB (w.setCell ⟨b,j,none⟩ (.bool true)) b n (fun i=>i==j||f i):=by
 unfold RowB World.setCell at *;simp only [Array.getElem?_modify,if_true];rw [h];simp only [Option.map_some,Option.isSome_none,Bool.false_eq_true,if_false,Option.some.injEq,Obj.cells.injEq,and_true];apply Array.ext
 ·simp [boolRow]
 ·intro i h1 h2;simp only [boolRow,List.setIfInBounds_toArray,List.getElem_toArray,List.getElem_set,List.getElem_map,List.getElem_range];by_cases hij:i=j
  ·subst hij; simp
  ·rw [if_neg (fun e=>hij e.symm)];simp [beq_eq_false_iff_ne.2 hij]
theorem RowB.new (w:World) (n:Nat):RowB (w.alloc (.cells (boolRow n fun _=>false) 4)) w.heap.size n fun _=>false:=heap_alloc_new w _
theorem RowB.congr {w:World} {b n:Nat} {f f':Nat->Bool} (h:RowB w b n f) (k:∀ j,j<n->f j=f' j):RowB w b n f':=by
 have:boolRow n f=boolRow n f':=by
  unfold boolRow
  congr 1
  exact List.map_congr_left (fun j hj=>by rw [k j (List.mem_range.1 hj)])
 unfold RowB at *;rw [h,this]
theorem RowB.off {w:World} {b n j:Nat} {f:Nat->Bool} {x:Int} {a:Addr} (h:RowB w b n f) (hc:w.cell? a=some (.int .i64 x)) (ha:a=⟨b,j,none⟩):False:=by
 subst ha;rcases Nat.lt_or_ge j n with hj | hj
 ·rw [h.cell hj] at hc; cases hc
 ·unfold World.cell? at hc;rw [show w.heap[(⟨b,j,none⟩:Addr).block]? = _ from h] at hc;simp [boolRow] at hc
theorem RowB.ints {w w':World} {b n:Nat} {f:Nat->Bool} {v:Value} {xs:List Int} (h:RowB w b n f) (hi:Ints w v xs) (hg:w.grownBy w' (some b)):Ints w' v xs:=by
 obtain ⟨a,c,hv,h1,h2,h3⟩:=hi;refine ⟨a,c,hv,h1,h2,fun i x hx=>?_⟩;obtain ⟨b2,off,cs,ha,⟨rfl,hr⟩,hl,hc⟩:=h3 i x hx;refine ⟨b2,off,_,ha,⟨rfl,hr⟩,hl,fun j u hu=>?_⟩;refine hg.cell (hc j u hu) (fun e=>?_);have e:=Option.some.inj e
 match j,hu with
 | 0,hu =>
  exact h.off (hc 0 _ rfl) (by rw [Addr.mk.injEq]; exact ⟨e,rfl,rfl⟩)
def RowC (n:Nat) (b:Nat) (cs:List Value):Prop:=cs=[.slice (some ⟨b,0,none⟩) n n]
structure TabI (w wr:World) (g:List Ty) (rs:List Reveal) (v:Value) (k:Nat):Prop where
 ext:Ext w wr
 own:∃ rbs:List Nat,rbs.length=k/\OwnL (RowC g.length) 64 1 wr w.heap.size v rbs/\∀ (i b:Nat),rbs[i]? = some b->v.ownBlock≠some b/\RowB wr b g.length (lieB g rs i)
theorem OwnL.later {α:Type} {R:α->List Value->Prop} {e:TypeId} {sz:Nat} {w w':World} {base:Nat} {v:Value} {xs:List α} (h:OwnL R e sz w base v xs) (hE:Ext w w'):OwnL R e sz w' base v xs:=by
 obtain ⟨css,hl,hR,hsz,hown⟩:=h;exact ⟨css,hl,hR,hsz,owns_ext hown hE⟩
theorem TabI.nil (w:World) (g:List Ty) (rs:List Reveal):TabI w w g rs (.slice none 0 0) 0:=⟨Ext.refl w,[],rfl,OwnL.nil w,fun i b h=>by simp at h⟩
theorem TabI.later {w wr wx:World} {g:List Ty} {rs:List Reveal} {v:Value} {k:Nat} (h:TabI w wr g rs v k) (hE:Ext wr wx):TabI w wx g rs v k:=by
 obtain ⟨h1,rbs,h2,h3,h4⟩:=h;exact ⟨h1.trans hE,rbs,h2,h3.later hE,fun i b hb=>⟨(h4 i b hb).1,(h4 i b hb).2.ext hE⟩⟩
theorem TabI.push {w wx W2:World} {g:List Ty} {rs:List Reveal} {v v':Value} {k:Nat} {rbs:List Nat} (h1:Ext w wx) (hl:rbs.length=k) (hr:∀ (i b:Nat),rbs[i]? = some b->v.ownBlock≠some b/\RowB wx b g.length (lieB g rs i))
  (hO:OwnL (RowC g.length) 64 1 wx w.heap.size v rbs) {rb:Nat} (hne:v.ownBlock≠some rb) (hrow:RowB wx rb g.length (lieB g rs k)) (hO2:OwnL (RowC g.length) 64 1 W2 w.heap.size v' (rbs++[rb]))
  (hg:(wx.alloc (.cells #[.slice (some ⟨rb,0,none⟩) g.length g.length] 64)).grownBy W2 v.ownBlock) (hat:v'.ownBlock=v.ownBlock\/v'.ownBlock=some (wx.alloc (.cells #[.slice (some ⟨rb,0,none⟩) g.length g.length] 64)).heap.size):TabI w W2 g rs v' (k+1):=by
 have hx:Ext wx (wx.alloc (.cells #[.slice (some ⟨rb,0,none⟩) g.length g.length] 64)):=Ext.alloc _ _;have key:∀ b f,v.ownBlock≠some b->RowB wx b g.length f->v'.ownBlock≠some b/\RowB W2 b g.length f:=fun b f h1 h2=>by
  have hb:=row_lt h2;refine ⟨fun e=>?_,?_⟩
  ·rcases hat with ha | ha
   ·exact h1 (ha.symm.trans e)
   ·have:=Option.some.inj (ha.symm.trans e);rw [World.size_alloc] at this;omega
  ·exact (hg.block b (by rw [World.size_alloc]; omega) (fun e=>h1 e.symm)).trans (h2.ext hx)
 refine ⟨(h1.trans hx).grown hg (h1.trans hx).size (fun q e=>(hO.lt q e).1),rbs++[rb],by simp [hl],hO2,fun i b hb=>?_⟩;rcases Nat.lt_or_ge i rbs.length with hlt | hge
 ·rw [List.getElem?_append_left hlt] at hb;exact key b _ (hr i b hb).1 (hr i b hb).2
 ·have hil:=(List.getElem?_eq_some_iff.1 hb).1;simp at hil;have:i=k:=by omega
  subst this;rw [List.getElem?_append_right (by omega),hl] at hb;simp at hb;subst hb;exact key _ _ hne hrow
def TabR (W:World) (tb:Nat) (g:List Ty) (rs:List Reveal):Prop:=∀ i,i<g.length->∃ b,W.cell? ⟨tb,i,none⟩=some (.slice (some ⟨b,0,none⟩) g.length g.length)/\∀ j,j<g.length->W.cell? ⟨b,j,none⟩=some (.bool (lieB g rs i j))
theorem TabR.ext {W W':World} {tb:Nat} {g:List Ty} {rs:List Reveal} (h:TabR W tb g rs) (hE:Ext W W'):TabR W' tb g rs:=fun i hi=>by
 obtain ⟨b,h1,h2⟩:=h i hi;exact ⟨b,hE.cell h1,fun j hj=>hE.cell (h2 j hj)⟩
theorem wpList_append_list {P:Program} {α:Type} {R:α->List Value->Prop} {xs ys:List α} {w:World} {ops:Array Oper} {rest:List Oper} {o:Oper} {a:Act} {Q:Exit->Act->World->Prop} (hgd:o.guard=none) (s x:Operand) (t:TypeId)
  (ho:o.op=.call { callee:=.builtin .append,args:=#[s,x],argTypes:=#[t,t] })
  (base:Nat) (e:TypeId) (i:TypeInfo) (z:Value) (size bytes:Nat) (ht:P.underlying t=some (.slice e)) (hi:P.info? e=some i) (hz:i.zero=some z)
  (hsize:i.size=size) (hby:i.bytes=bytes) (hzs:z.cells.size=size) (hsz:0<size)
  (v xv:Value) (hs:a.eval s=v) (hown:OwnL R e size w base v xs) (hx:a.eval x=xv) (hsl:SlW (fun _=>R) size w xv ys) (hone:∀ y cs,R y cs->∀ u,u∈cs->u.oneCell'=true)
  (h63:xs.length+ys.length<=maxLen) (hbytes:(xs.length+ys.length)*bytes<=140737488355328) (hbase:base<=w.heap.size)
  (h:∀ v' w',OwnL R e size w' base v' (xs++ys)->w.grownBy w' v.ownBlock->(v'.ownBlock=v.ownBlock\/v'.ownBlock=some w.heap.size)->wpList P ops Q rest (a.put o.dst v') w') :
  wpList P ops Q (o :: rest) a w:=by
 refine wpList_plain hgd fun K hK=>?_;exact wp_append_list s x t ho base e i z size bytes ht hi hz hsize hby hzs hsz v xv hs hown hx hsl hone h63 hbytes hbase (fun v' w' h1 h2 h3=>hK _ _ (h v' w' h1 h2 h3))
structure MarkI (w3 W1 wx0 wx:World) (g:List Ty) (rs:List Reveal) (k m:Nat):Prop where
 gr:wx0.grownBy wx (some W1.heap.size)
 row:RowB wx W1.heap.size g.length fun j=>decide (j∈((List.range g.length).filter (lieB g rs k)).take m)
 ext:Ext W1 wx
theorem MarkI.set {w3 W1 wx0 wx:World} {g:List Ty} {rs:List Reveal} {k m:Nat} (h:MarkI w3 W1 wx0 wx g rs k m) {j:Nat} (hj:((List.range g.length).filter (lieB g rs k))[m]? = some j):MarkI w3 W1 wx0 (wx.setCell ⟨W1.heap.size,j,none⟩ (.bool true)) g rs k (m+1):=by
 refine ⟨grownBy_set h.gr _ _,(h.row.set j).congr (fun i _=>?_),Below.setCell h.ext (Nat.le_refl _) _⟩;rw [List.take_add_one,hj];by_cases hij:i=j
 ·subst hij; simp
 ·simp [beq_eq_false_iff_ne.2 hij,hij]
theorem MarkI.done {w3 W1 wx0 wx:World} {g:List Ty} {rs:List Reveal} {k m:Nat} (h:MarkI w3 W1 wx0 wx g rs k m) (hm:((List.range g.length).filter (lieB g rs k)).length<=m):RowB wx W1.heap.size g.length (lieB g rs k) :=
 h.row.congr (fun j hj=>by
  rw [List.take_of_length_le hm,Bool.eq_iff_iff];simp only [decide_eq_true_eq,List.mem_filter,List.mem_range];exact ⟨fun h=>h.2,fun h=>⟨hj,h⟩⟩)
end Go.Proofs.YtjffkeoajkhbmaaGreat
