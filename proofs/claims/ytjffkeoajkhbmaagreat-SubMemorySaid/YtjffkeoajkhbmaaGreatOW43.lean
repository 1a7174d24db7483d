/- The law SubLaws: in plain Lean, and walked. The law SubMore: in plain Lean, and walked. The law SubMemory, walked: an environment keeps nothing of its arguments, and what it answers is new memory. The law SubMemory holds: for every input it answers true, and its arguments read as before. -/
import Derived.Test.YtjffkeoajkhbmaaGreatOW19
import Derived.Test.YtjffkeoajkhbmaaGreatOW39
import Derived.Test.YtjffkeoajkhbmaaGreatOW41
import Derived.Test.YtjffkeoajkhbmaaGreatOW42
namespace Go.Proofs.YtjffkeoajkhbmaaGreat
set_option linter.unusedSimpArgs false
set_option linter.unusedVariables false
set_option maxRecDepth 100000
set_option maxHeartbeats 8000000
section
open Go.RowKit Go.Proofs Go.Shelf
def lieB (g:List Ty) (rs:List Reveal) (a b:Nat):Bool:=(nth (reachL g rs g.length) a).testBit b
def boolRow (n:Nat) (f:Nat->Bool):Array Value:=((List.range n).map fun j=>Value.bool (f j)).toArray
theorem boolRow_at {n j:Nat} (f:Nat->Bool) (h:j<n):(boolRow n f)[j]? = some (.bool (f j)):=by simp [boolRow,h]
def RowB (w:World) (b n:Nat) (f:Nat->Bool):Prop:=w.heap[b]? = some (.cells (boolRow n f) 4 (0,0))
theorem RowB.ext {w w':World} {b n:Nat} {f:Nat->Bool} (h:RowB w b n f) (hE:Ext w w'):RowB w' b n f:=(hE.block b (row_lt h)).trans h
theorem RowB.cell {w:World} {b n:Nat} {f:Nat->Bool} (h:RowB w b n f) {j:Nat} (hj:j<n):w.cell? ⟨b,j,none⟩=some (.bool (f j)):=row_cell h (boolRow_at f hj)
theorem RowB.free {w:World} {b n:Nat} {f:Nat->Bool} (h:RowB w b n f) (j:Nat):w.frozen? ⟨b,j,none⟩=false:=by
 unfold World.frozen?;rw [show w.heap[(⟨b,j,none⟩:Addr).block]? = _ from h];simp
theorem RowB.set {w:World} {b n:Nat} {f:Nat->Bool} (h:RowB w b n f) (j:Nat):RowB (w.setCell ⟨b,j,none⟩ (.bool true)) b n (fun i=>i==j||f i):=by
 unfold RowB World.setCell at *;simp only [Array.getElem?_modify,if_true];rw [h];simp only [Option.map_some,Option.isSome_none,Bool.false_eq_true,if_false,Option.some.injEq,Obj.cells.injEq,and_true];apply Array.ext
 ·simp [boolRow]
 ·intro i h1 h2;simp only [boolRow,List.setIfInBounds_toArray,List.getElem_toArray,List.getElem_set,List.getElem_map,List.getElem_range];by_cases hij:i=j
  ·subst hij; simp
  ·rw [if_neg (fun e=>hij e.symm)];simp [beq_eq_false_iff_ne.2 hij]
theorem RowB.new (w:World) (n:Nat):RowB (w.alloc (.cells (boolRow n fun _=>false) 4)) w.heap.size n fun _=>false:=heap_alloc_new w _
theorem RowB.congr {w:World} {b n:Nat} {f f':Nat->Bool} (h:RowB w b n f) (k:∀ j,j<n->f j=f' j):RowB w b n f':=by
 have:boolRow n f=boolRow n f':=by
  unfold boolRow
  congr 1
  exact List.map_congr_left (fun j hj=>by rw [k j (List.mem_range.1 hj)])
 unfold RowB at *;rw [h,this]
theorem RowB.off {w:World} {b n j:Nat} {f:Nat->Bool} {x:Int} {a:Addr} (h:RowB w b n f) (hc:w.cell? a=some (.int .i64 x)) (ha:a=⟨b,j,none⟩):False:=by
 subst ha;rcases Nat.lt_or_ge j n with hj | hj
 ·rw [h.cell hj] at hc; cases hc
 ·unfold World.cell? at hc;rw [show w.heap[(⟨b,j,none⟩:Addr).block]? = _ from h] at hc;simp [boolRow] at hc
theorem RowB.ints {w w':World} {b n:Nat} {f:Nat->Bool} {v:Value} {xs:List Int} (h:RowB w b n f) (hi:Ints w v xs) (hg:w.grownBy w' (some b)):Ints w' v xs:=by
 obtain ⟨a,c,hv,h1,h2,h3⟩:=hi;refine ⟨a,c,hv,h1,h2,fun i x hx=>?_⟩;obtain ⟨b2,off,cs,ha,⟨rfl,hr⟩,hl,hc⟩:=h3 i x hx;refine ⟨b2,off,_,ha,⟨rfl,hr⟩,hl,fun j u hu=>?_⟩;refine hg.cell (hc j u hu) (fun e=>?_);have e:=Option.some.inj e
 match j,hu with
 | 0,hu =>
  exact h.off (hc 0 _ rfl) (by rw [Addr.mk.injEq]; exact ⟨e,rfl,rfl⟩)
def RowC (n:Nat) (b:Nat) (cs:List Value):Prop:=cs=[.slice (some ⟨b,0,none⟩) n n]
structure TabI (w wr:World) (g:List Ty) (rs:List Reveal) (v:Value) (k:Nat):Prop where
 ext:Ext w wr
 own:∃ rbs:List Nat,rbs.length=k/\OwnL (RowC g.length) 64 1 wr w.heap.size v rbs/\∀ (i b:Nat),rbs[i]? = some b->v.ownBlock≠some b/\RowB wr b g.length (lieB g rs i)
theorem OwnL.later {α:Type} {R:α->List Value->Prop} {e:TypeId} {sz:Nat} {w w':World} {base:Nat} {v:Value} {xs:List α} (h:OwnL R e sz w base v xs) (hE:Ext w w'):OwnL R e sz w' base v xs:=by
 obtain ⟨css,hl,hR,hsz,hown⟩:=h;exact ⟨css,hl,hR,hsz,owns_ext hown hE⟩
theorem TabI.nil (w:World) (g:List Ty) (rs:List Reveal):TabI w w g rs (.slice none 0 0) 0:=⟨Ext.refl w,[],rfl,OwnL.nil w,fun i b h=>by simp at h⟩
theorem TabI.later {w wr wx:World} {g:List Ty} {rs:List Reveal} {v:Value} {k:Nat} (h:TabI w wr g rs v k) (hE:Ext wr wx):TabI w wx g rs v k:=by
 obtain ⟨h1,rbs,h2,h3,h4⟩:=h;exact ⟨h1.trans hE,rbs,h2,h3.later hE,fun i b hb=>⟨(h4 i b hb).1,(h4 i b hb).2.ext hE⟩⟩
theorem TabI.push {w wx W2:World} {g:List Ty} {rs:List Reveal} {v v':Value} {k:Nat} {rbs:List Nat} (h1:Ext w wx) (hl:rbs.length=k) (hr:∀ (i b:Nat),rbs[i]? = some b->v.ownBlock≠some b/\RowB wx b g.length (lieB g rs i))
  (hO:OwnL (RowC g.length) 64 1 wx w.heap.size v rbs) {rb:Nat} (hne:v.ownBlock≠some rb) (hrow:RowB wx rb g.length (lieB g rs k)) (hO2:OwnL (RowC g.length) 64 1 W2 w.heap.size v' (rbs++[rb]))
  (hg:(wx.alloc (.cells #[.slice (some ⟨rb,0,none⟩) g.length g.length] 64)).grownBy W2 v.ownBlock) (hat:v'.ownBlock=v.ownBlock\/v'.ownBlock=some (wx.alloc (.cells #[.slice (some ⟨rb,0,none⟩) g.length g.length] 64)).heap.size):TabI w W2 g rs v' (k+1):=by
 have hx:Ext wx (wx.alloc (.cells #[.slice (some ⟨rb,0,none⟩) g.length g.length] 64)):=Ext.alloc _ _;have key:∀ b f,v.ownBlock≠some b->RowB wx b g.length f->v'.ownBlock≠some b/\RowB W2 b g.length f:=fun b f h1 h2=>by
  have hb:=row_lt h2;refine ⟨fun e=>?_,?_⟩
  ·rcases hat with ha | ha
   ·exact h1 (ha.symm.trans e)
   ·have:=Option.some.inj (ha.symm.trans e);rw [World.size_alloc] at this;omega
  ·exact (hg.block b (by rw [World.size_alloc]; omega) (fun e=>h1 e.symm)).trans (h2.ext hx)
 refine ⟨(h1.trans hx).grown hg (h1.trans hx).size (fun q e=>(hO.lt q e).1),rbs++[rb],by simp [hl],hO2,fun i b hb=>?_⟩;rcases Nat.lt_or_ge i rbs.length with hlt | hge
 ·rw [List.getElem?_append_left hlt] at hb;exact key b _ (hr i b hb).1 (hr i b hb).2
 ·have hil:=(List.getElem?_eq_some_iff.1 hb).1;simp at hil;have:i=k:=by omega
  subst this;rw [List.getElem?_append_right (by omega),hl] at hb;simp at hb;subst hb;exact key _ _ hne hrow
def TabR (W:World) (tb:Nat) (g:List Ty) (rs:List Reveal):Prop:=∀ i,i<g.length->∃ b,W.cell? ⟨tb,i,none⟩=some (.slice (some ⟨b,0,none⟩) g.length g.length)/\∀ j,j<g.length->W.cell? ⟨b,j,none⟩=some (.bool (lieB g rs i j))
theorem TabR.ext {W W':World} {tb:Nat} {g:List Ty} {rs:List Reveal} (h:TabR W tb g rs) (hE:Ext W W'):TabR W' tb g rs:=fun i hi=>by
 obtain ⟨b,h1,h2⟩:=h i hi;exact ⟨b,hE.cell h1,fun j hj=>hE.cell (h2 j hj)⟩
theorem wpList_append_list {P:Program} {α:Type} {R:α->List Value->Prop} {xs ys:List α} {w:World} {ops:Array Oper} {rest:List Oper} {o:Oper} {a:Act} {Q:Exit->Act->World->Prop} (hgd:o.guard=none) (s x:Operand) (t:TypeId)
  (ho:o.op=.call { callee:=.builtin .append,args:=#[s,x],argTypes:=#[t,t] })
  (base:Nat) (e:TypeId) (i:TypeInfo) (z:Value) (size bytes:Nat) (ht:P.underlying t=some (.slice e)) (hi:P.info? e=some i) (hz:i.zero=some z)
  (hsize:i.size=size) (hby:i.bytes=bytes) (hzs:z.cells.size=size) (hsz:0<size)
  (v xv:Value) (hs:a.eval s=v) (hown:OwnL R e size w base v xs) (hx:a.eval x=xv) (hsl:SlW (fun _=>R) size w xv ys) (hone:∀ y cs,R y cs->∀ u,u∈cs->u.oneCell'=true)
  (h63:xs.length+ys.length<=maxLen) (hbytes:(xs.length+ys.length)*bytes<=140737488355328) (hbase:base<=w.heap.size)
  (h:∀ v' w',OwnL R e size w' base v' (xs++ys)->w.grownBy w' v.ownBlock->(v'.ownBlock=v.ownBlock\/v'.ownBlock=some w.heap.size)->wpList P ops Q rest (a.put o.dst v') w') :
  wpList P ops Q (o :: rest) a w:=by
 refine wpList_plain hgd fun K hK=>?_;exact wp_append_list s x t ho base e i z size bytes ht hi hz hsize hby hzs hsz v xv hs hown hx hsl hone h63 hbytes hbase (fun v' w' h1 h2 h3=>hK _ _ (h v' w' h1 h2 h3))
structure MarkI (w3 W1 wx0 wx:World) (g:List Ty) (rs:List Reveal) (k m:Nat):Prop where
 gr:wx0.grownBy wx (some W1.heap.size)
 row:RowB wx W1.heap.size g.length fun j=>decide (j∈((List.range g.length).filter (lieB g rs k)).take m)
 ext:Ext W1 wx
theorem MarkI.set {w3 W1 wx0 wx:World} {g:List Ty} {rs:List Reveal} {k m:Nat} (h:MarkI w3 W1 wx0 wx g rs k m) {j:Nat} (hj:((List.range g.length).filter (lieB g rs k))[m]? = some j):MarkI w3 W1 wx0 (wx.setCell ⟨W1.heap.size,j,none⟩ (.bool true)) g rs k (m+1):=by
 refine ⟨grownBy_set h.gr _ _,(h.row.set j).congr (fun i _=>?_),Below.setCell h.ext (Nat.le_refl _) _⟩;rw [List.take_add_one,hj];by_cases hij:i=j
 ·subst hij; simp
 ·simp [beq_eq_false_iff_ne.2 hij,hij]
theorem MarkI.done {w3 W1 wx0 wx:World} {g:List Ty} {rs:List Reveal} {k m:Nat} (h:MarkI w3 W1 wx0 wx g rs k m) (hm:((List.range g.length).filter (lieB g rs k)).length<=m):RowB wx W1.heap.size g.length (lieB g rs k) :=
 h.row.congr (fun j hj=>by
  rw [List.take_of_length_le hm,Bool.eq_iff_iff];simp only [decide_eq_true_eq,List.mem_filter,List.mem_range];exact ⟨fun h=>h.2,fun h=>⟨hj,h⟩⟩)
end
section
open Go.RowKit Go.Proofs Go.Shelf
def RevealC (x:Reveal) (cs:List Value):Prop:=cs=[.string x.name,.bool x.full,.int .i64 x.type]/\x.name.size<=maxBytes/\-9223372036854775808<=x.type/\x.type<=9223372036854775807
theorem reveal_cells:∀ y cs,RevealC y cs->∀ u,u∈cs->u.oneCell'=true:=fun y cs h u hu=>by
 obtain ⟨rfl,_⟩:=h;simp only [List.mem_cons,List.not_mem_nil,or_false] at hu;rcases hu with rfl | rfl | rfl <;> rfl
def HasBox (w:World) (b:Nat) (r:Reveal):Prop:=w.heap[b]? = some (.cells #[.string r.name,.bool r.full,.int .i64 r.type] 43 (0,0))
theorem HasBox.ext {w w':World} {b:Nat} {r:Reveal} (h:HasBox w b r) (hE:Ext w w'):HasBox w' b r:=(hE.block b (row_lt h)).trans h
section
variable {P:Program} {md:Region.Mode} {ops:Array Oper} {fin:Nat} {Q:Exit->Act->World->Prop} {S:World->Prop}
end
theorem OwnL.alloc {α:Type} {R:α->List Value->Prop} {e:TypeId} {sz:Nat} {w:World} {base:Nat} {v:Value} {xs:List α} (h:OwnL R e sz w base v xs) (o:Obj):OwnL R e sz (w.alloc o) base v xs:=by
 obtain ⟨css,hl,hR,hsz,hown⟩:=h;exact ⟨css,hl,hR,hsz,hown.alloc o⟩
theorem OwnL.ext {α:Type} {R:α->List Value->Prop} {e:TypeId} {sz:Nat} {w w' w0:World} {v:Value} {xs:List α} (h:OwnL R e sz w w0.heap.size v xs) (hE:Ext w0 w) (hg:w.grownBy w' v.ownBlock):Ext w0 w' :=
 hE.grown hg hE.size (fun q e=>(h.lt q e).1)
end
section
open Go.RowKit Go.Proofs Go.Shelf
def HasRow (w:World) (b:Nat) (T:TypeId) (n:Nat):Prop:=∃ cur,w.heap[b]? = some (.cells cur T (0,0))/\n<=cur.size
theorem HasRow.ext {w w':World} {b:Nat} {T:TypeId} {n:Nat} (h:HasRow w b T n) (hE:Ext w w'):HasRow w' b T n:=by
 obtain ⟨cur,h1,h2⟩:=h;exact ⟨cur,(hE.block b (row_lt h1)).trans h1,h2⟩
theorem HasRow.set {w:World} {b:Nat} {T:TypeId} {n:Nat} (h:HasRow w b T n) (c j:Nat) (v:Value):HasRow (w.setCell ⟨c,j,none⟩ v) b T n:=by
 obtain ⟨cur,h1,h2⟩:=h;by_cases hc:b=c
 ·subst hc;exact ⟨_,row_set h1,by rw [Array.size_setIfInBounds]; exact h2⟩
 ·exact ⟨cur,(Below.heap_setCell _ _ _ _ hc).trans h1,h2⟩
theorem HasRow.cell {w:World} {b:Nat} {T:TypeId} {n:Nat} (h:HasRow w b T n) {j:Nat} (hj:j<n):∃ u,w.cell? ⟨b,j,none⟩=some u:=by
 obtain ⟨cur,h1,h2⟩:=h;exact ⟨_,row_cell h1 (Array.getElem?_eq_getElem (show j<cur.size by omega))⟩
theorem HasRow.free {w:World} {b:Nat} {T:TypeId} {n:Nat} (h:HasRow w b T n) (j:Nat):w.frozen? ⟨b,j,none⟩=false:=by
 obtain ⟨cur,h1,h2⟩:=h;exact row_free h1 j
theorem HasRow.lt {w:World} {b:Nat} {T:TypeId} {n:Nat} (h:HasRow w b T n):b<w.heap.size:=by
 obtain ⟨cur,h1,h2⟩:=h;exact row_lt h1
theorem HasRow.tag {w:World} {b:Nat} {T:TypeId} {n:Nat} (h:HasRow w b T n):∃ cur,w.heap[b]? = some (.cells cur T (0,0)):=by
 obtain ⟨cur,h1,h2⟩:=h;exact ⟨cur,h1⟩
theorem own_row {α:Type} {R:α->List Value->Prop} {e:TypeId} {sz:Nat} {w:World} {base o:Nat} {v:Value} {xs:List α} (h:OwnL R e sz w base v xs) (ho:v.ownBlock=some o) :
  ∃ cap,v=.slice (some ⟨o,0,none⟩) xs.length cap/\base<=o/\HasRow w o e (xs.length*sz):=by
 obtain ⟨css,_,_,_,hrow⟩:=h;rcases hrow.2 with ⟨rfl,_⟩ | ⟨q,cap,cur,rfl,hb,hg,hn,_,hsz,_⟩
 ·cases ho
 ·cases ho;exact ⟨cap,rfl,hb,cur,hg,by rw [hsz]; exact Nat.mul_le_mul_right _ hn⟩
theorem new_row {w w':World} {x:Option Addr} {n c:Nat} {xs:List Int} (h:NewRow w w' (.slice x n c) xs) (hn:n=xs.length) :
  (0<n->∃ r,x=some ⟨r,0,none⟩)/\∀ r,x=some ⟨r,0,none⟩->w.heap.size<=r/\HasRow w' r 3 n:=by
 obtain ⟨B,hB,hrow⟩:=h;rcases hrow.2 with ⟨e,h0⟩ | ⟨q,cap,cur,e,hb,hg,hle,_,hsz,_⟩
 ·cases e;exact ⟨fun h=>absurd h (Nat.lt_irrefl 0),fun r h=>by cases h⟩
 ·cases e;exact ⟨fun _=>⟨q,rfl⟩,fun r h=>by cases h; exact ⟨Nat.le_trans hB hb,cur,hg,by omega⟩⟩
theorem slw_fix {α:Type} {R:World->α->List Value->Prop} {sz:Nat} {w w':World} {v:Value} {xs:List α} (h:SlW R sz w v xs) (hE:Ext w w'):SlW (fun _=>R w) sz w' v xs:=by
 obtain ⟨a,c,hv,hl,hc,hx⟩:=h;refine ⟨a,c,hv,hl,hc,fun i x hi=>?_⟩;obtain ⟨b,off,cs,ha,hr,hlen,hcell⟩:=hx i x hi;exact ⟨b,off,cs,ha,hr,hlen,fun j u hu=>hE.cell (hcell j u hu)⟩
theorem graph_free {w W:World} {v:Value} {g:List Ty} (h:SlW (fun _=>IsTy w) 10 W v g) (hE:Ext w W):Graph W v g:=by
 obtain ⟨a,c,hv,hl,hc,hx⟩:=h;refine ⟨a,c,hv,hl,hc,fun i x hi=>?_⟩;obtain ⟨b,off,cs,ha,hr,hlen,hcell⟩:=hx i x hi;exact ⟨b,off,cs,ha,IsTy.mono hE hr,hlen,hcell⟩
theorem ty_cells {w:World}:∀ y cs,IsTy w y cs->∀ u,u∈cs->u.oneCell'=true:=fun y cs h u hu=>by
 obtain ⟨pv,mv,ov,rfl,h1,h2,h3,_⟩:=h;obtain ⟨_,_,rfl,_⟩:=h1;obtain ⟨_,_,rfl,_⟩:=h2;obtain ⟨_,_,rfl,_⟩:=h3;unfold tyCells at hu;simp only [List.mem_cons,List.not_mem_nil,or_false] at hu;rcases hu with rfl | rfl | rfl | rfl | rfl | rfl | rfl | rfl | rfl | rfl <;> rfl
structure OverI (w W wr:World) (o l no nl:Nat):Prop where
 ext:Ext w wr
 lo:w.heap.size<=o
 ll:w.heap.size<=l
 bo:HasRow wr o 50 no
 bl:HasRow wr l 43 nl
 oth:∀ j,j≠o->j≠l->wr.heap[j]? = W.heap[j]?
theorem OverI.seto {w W wr:World} {o l no nl:Nat} (h:OverI w W wr o l no nl) (j:Nat) (v:Value):OverI w W (wr.setCell ⟨o,j,none⟩ v) o l no nl :=
 ⟨Below.setCell h.ext h.lo v,h.lo,h.ll,h.bo.set _ _ _,h.bl.set _ _ _,fun k h1 h2=>(Below.heap_setCell _ _ _ _ h1).trans (h.oth k h1 h2)⟩
theorem OverI.setl {w W wr:World} {o l no nl:Nat} (h:OverI w W wr o l no nl) (j:Nat) (v:Value):OverI w W (wr.setCell ⟨l,j,none⟩ v) o l no nl :=
 ⟨Below.setCell h.ext h.ll v,h.lo,h.ll,h.bo.set _ _ _,h.bl.set _ _ _,fun k h1 h2=>(Below.heap_setCell _ _ _ _ h2).trans (h.oth k h1 h2)⟩
structure RowsI (W wr:World) (x:Option Addr) (n:Nat) (y:Option Addr) (m:Nat):Prop where
 ext:Ext W wr
 bx:∀ r,x=some ⟨r,0,none⟩->W.heap.size<=r/\HasRow wr r 3 n
 bY:∀ r,y=some ⟨r,0,none⟩->W.heap.size<=r/\HasRow wr r 3 m
theorem RowsI.setx {W wr:World} {r n m:Nat} {y:Option Addr} (h:RowsI W wr (some ⟨r,0,none⟩) n y m) (j:Nat) (v:Value):RowsI W (wr.setCell ⟨r,j,none⟩ v) (some ⟨r,0,none⟩) n y m :=
 ⟨Below.setCell h.ext (h.bx r rfl).1 v,fun k e=>⟨(h.bx k e).1,(h.bx k e).2.set _ _ _⟩,fun k e=>⟨(h.bY k e).1,(h.bY k e).2.set _ _ _⟩⟩
theorem RowsI.sety {W wr:World} {r n m:Nat} {x:Option Addr} (h:RowsI W wr x n (some ⟨r,0,none⟩) m) (j:Nat) (v:Value):RowsI W (wr.setCell ⟨r,j,none⟩ v) x n (some ⟨r,0,none⟩) m :=
 ⟨Below.setCell h.ext (h.bY r rfl).1 v,fun k e=>⟨(h.bx k e).1,(h.bx k e).2.set _ _ _⟩,fun k e=>⟨(h.bY k e).1,(h.bY k e).2.set _ _ _⟩⟩
theorem subMemory6 (ga:Option Addr) (gn gc:Nat) (g:List Ty) (ra:Option Addr) (rn rc:Nat) (rs:List Reveal) (a:Int) (w:World) (hg:Graph w (.slice ga gn gc) g) (hre:Reveals w (.slice ra rn rc) rs) (hx:I64 a) :
  Calls Tryz.prog 6 #[.slice ga gn gc,.slice ra rn rc,.int .i64 a] w (Holds w):=by
 obtain rfl:=SlW.len hg;obtain rfl:=SlW.len hre;have Hg:=dh hg;have Hre:=dh hre;have Hx:=dh hx;clear hg hre hx
 go_enter Tryz.func6,Tryz.ntmps6
 go_wp2_with fail;refine (little13 _ _ _ g w Hg.out).mono ?_;rintro e w1 ⟨bl,rfl,hE,hl⟩;have HE:=dh hE;have Hl:=dh hl;clear hE hl;cases bl
 ·go_wp2_with fail;refine (ordered15 _).mono ?_;rintro e wN ⟨rfl,hE⟩;have HE:=dh (HE.out.trans hE);clear hE;go_wp2_with fail;go_ret;exact ⟨rfl,HE.out⟩
 go_wp2_with fail;refine (few14 _ _ _ rs w1 (Reveals.mono HE.out Hre.out)).mono ?_;rintro e w2 ⟨bf,rfl,hE,hf⟩;have HE:=dh (HE.out.trans hE);have Hf:=dh hf;clear hE hf;cases bf
 ·go_wp2_with fail;refine (ordered15 _).mono ?_;rintro e wN ⟨rfl,hE⟩;have HE:=dh (HE.out.trans hE);clear hE;go_wp2_with fail;go_ret;exact ⟨rfl,HE.out⟩
 have hgl:=Hl.out trivial;have hrl:=(Hf.out rfl).2;obtain ⟨i0,hi,hz0,hz1,hz2⟩:=info_parts info50c;have hsl:=slw_fix (Graph.mono HE.out Hg.out) (Ext.alloc w2 (.cells #[] 50));have hO0:OwnL (IsTy w2) 50 10 (w2.alloc (.cells #[] 50)) w2.heap.size (.slice (some ⟨w2.heap.size,0,none⟩) 0 0) ([]:List Ty):=OwnL.made w2 #[] 0 (Nat.le_refl _) (by decide) rfl;go_wp2_with (at_builtin; refine wpList_append_list rfl (.tmp 38) (.tmp 39) 23 rfl w2.heap.size 50 i0 (.agg #[.int .u8 0,.int .i64 0,.int .i64 0,.bool false,.string ⟨#[]⟩,.string ⟨#[]⟩,.int .i64 0,.slice none 0 0,.slice none 0 0,.slice none 0 0]) 10 144 Tryz.underlying23 hi hz0 hz1 hz2 rfl (by decide) _ _ rfl hO0 rfl hsl ty_cells ?c1 ?c2 ?c3 ?_)
 case c1=>unfold maxLen; simp; omega
 case c2=>simp; omega
 case c3=>simp
 intro v7 W1 hO1 hg1 hat1;have hE1:=hO0.ext (Ext.alloc w2 (.cells #[] 50)) hg1;try rw [List.nil_append] at hO1
 obtain ⟨o,ho⟩:∃ o,v7.ownBlock=some o:=by
  rcases hat1 with h | h
  ·exact ⟨_,h⟩
  ·exact ⟨_,h⟩
 obtain ⟨oc,rfl,holo,hrow⟩:=own_row hO1 ho;have Ho:=dh hrow;have HolE:=dh (show w.heap.size<=o from Nat.le_trans HE.out.size holo);have HO1:=dh hO1;have HE1:=dh hE1;have HE:=dh (HE.out.trans hE1);clear hsl hO0 hO1 hg1 hat1 hE1 ho holo hrow hi hz0 hz1 hz2 Hl Hf;obtain ⟨i1,hi,hz0,hz1,hz2⟩:=info_parts info43;have hsl:SlW (fun _=>RevealC) 3 (W1.alloc (.cells #[] 43)) (.slice ra rs.length rc) rs:=Reveals.mono (HE.out.trans (Ext.alloc _ _)) Hre.out;have hO0:OwnL RevealC 43 3 (W1.alloc (.cells #[] 43)) W1.heap.size (.slice (some ⟨W1.heap.size,0,none⟩) 0 0) ([]:List Reveal):=OwnL.made W1 #[] 0 (Nat.le_refl _) (by decide) rfl;go_wp2_with (at_builtin; refine wpList_append_list rfl (.tmp 41) (.tmp 42) 24 rfl W1.heap.size 43 i1 (.agg #[.string ⟨#[]⟩,.bool false,.int .i64 0]) 3 32 Tryz.underlying24 hi hz0 hz1 hz2 rfl (by decide) _ _ rfl hO0 rfl hsl reveal_cells ?c4 ?c5 ?c6 ?_)
 case c4=>unfold maxLen; simp; omega
 case c5=>simp; omega
 case c6=>simp
 intro v8 W2 hO2 hg2 hat2;have hE2:=hO0.ext (Ext.alloc W1 (.cells #[] 43)) hg2;try rw [List.nil_append] at hO2
 obtain ⟨l,hl⟩:∃ l,v8.ownBlock=some l:=by
  rcases hat2 with h | h
  ·exact ⟨_,h⟩
  ·exact ⟨_,h⟩
 obtain ⟨lc,rfl,hllo,hrow⟩:=own_row hO2 hl;have Hlr:=dh hrow;have HllE:=dh (show w.heap.size<=l from Nat.le_trans HE.out.size hllo);have HG2:=dh (show Graph W2 (.slice (some ⟨o,0,none⟩) g.length oc) g from graph_free ((HO1.out.later hE2).slw (by unfold maxBytes; omega)) (HE1.out.trans hE2));have HR2:=dh (show Reveals W2 (.slice (some ⟨l,0,none⟩) rs.length lc) rs from hO2.slw (by unfold maxBytes; omega));have Ho:=dh (Ho.out.ext hE2);have HE:=dh (HE.out.trans hE2);clear hsl hO0 hO2 hg2 hat2 hE2 hl hllo hrow hi hz0 hz1 hz2 HO1 HE1;go_wp2_with fail;refine (inM _ _ _ g _ _ _ rs W2 HG2.out HR2.out).mono ?_;rintro e W3 ⟨hE,(⟨h0,vb,rfl,hM⟩ | ⟨h0,rfl⟩)⟩;rotate_left
 ·have HE:=dh (HE.out.trans hE);have H0:=dh h0;obtain ⟨k,hk⟩:∃ k,k=openE g rs:=⟨_,rfl⟩;have hk0:(k != 0)=true:=by simp [hk,h0]
  have hkk:(k != k)=false:=by simp
  rw [<- hk];have Hk:=dh hk;clear hE h0 hk Ho Hlr HG2 HR2 HolE HllE;go_wp2_with fail;refine (inR25 _ _ _ g _ _ _ rs W3 (Graph.mono HE.out Hg.out) (Reveals.mono HE.out Hre.out)).mono ?_;rintro e W4 ⟨hE,(⟨h0,_⟩ | ⟨_,rfl⟩)⟩
  ·exact absurd h0 H0.out
  have HE:=dh (HE.out.trans hE);rw [<- Hk.out];clear hE;go_wp2_with fail;refine (ordered15 _).mono ?_;rintro e wN ⟨rfl,hE⟩;have HE:=dh (HE.out.trans hE);clear hE;go_wp2_with fail;go_ret;exact ⟨rfl,HE.out⟩
 have Hlo2:=dh (show o<W2.heap.size from Ho.out.lt);have Hll2:=dh (show l<W2.heap.size from Hlr.out.lt);have HM:=dh hM;have Ho:=dh (Ho.out.ext hE);have Hlr:=dh (Hlr.out.ext hE);have HE:=dh (HE.out.trans hE);have H0:=dh h0;clear hE hM h0 HG2 HR2;go_wp2_with fail;refine (inR25T _ _ _ g _ _ _ rs W3 (Graph.mono HE.out Hg.out) (Reveals.mono HE.out Hre.out)).mono ?_;rintro e W4 ⟨hE,(⟨_,vr,D,rfl,_,hD,hT⟩ | ⟨h0,rfl⟩)⟩;rotate_left
 ·exact absurd H0.out h0
 have HM:=dh (HM.out.mono hE);have HT:=dh hT;have HD:=dh hD;have Ho:=dh (Ho.out.ext hE);have Hlr:=dh (Hlr.out.ext hE);have HI:=dh (show OverI w W4 W4 o l (g.length*10) (rs.length*3) from ⟨HE.out.trans hE,HolE.out,HllE.out,Ho.out,Hlr.out,fun _ _ _=>rfl⟩);clear hE hT hD HE HolE HllE;go_wp2_with fail;go_loopw [13] (fun iv wr=>∃ k:Nat,k<=g.length/\iv=.int .i64 k/\Hid (OverI w W4 wr o l (g.length*10) (rs.length*3))) (fun iv _=>g.length-(intOf iv).toNat)
 case atStart=>exact ⟨0,Nat.zero_le _,rfl,HI⟩
 case round =>
  clear HI;obtain ⟨k,hk,rfl,HI⟩:=hrel;by_cases hkn:k<g.length
  ·have hko:(k:Int)<g.length:=by omega
   obtain ⟨u0,e0⟩:=HI.out.bo.cell (show k*10<g.length*10 by omega);have f0:=HI.out.bo.free (k*10);obtain ⟨u1,e1⟩:=HI.out.bo.cell (show k*10+1<g.length*10 by omega);have f1:=HI.out.bo.free (k*10+1);obtain ⟨u2,e2⟩:=HI.out.bo.cell (show k*10+2<g.length*10 by omega);have f2:=HI.out.bo.free (k*10+2);obtain ⟨u3,e3⟩:=HI.out.bo.cell (show k*10+3<g.length*10 by omega);have f3:=HI.out.bo.free (k*10+3);obtain ⟨u4,e4⟩:=HI.out.bo.cell (show k*10+4<g.length*10 by omega);have f4:=HI.out.bo.free (k*10+4);obtain ⟨u5,e5⟩:=HI.out.bo.cell (show k*10+5<g.length*10 by omega);have f5:=HI.out.bo.free (k*10+5);obtain ⟨u6,e6⟩:=HI.out.bo.cell (show k*10+6<g.length*10 by omega);have f6:=HI.out.bo.free (k*10+6);obtain ⟨u7,e7⟩:=HI.out.bo.cell (show k*10+7<g.length*10 by omega);have f7:=HI.out.bo.free (k*10+7);obtain ⟨u8,e8⟩:=HI.out.bo.cell (show k*10+8<g.length*10 by omega);have f8:=HI.out.bo.free (k*10+8);obtain ⟨u9,e9⟩:=HI.out.bo.cell (show k*10+9<g.length*10 by omega);have f9:=HI.out.bo.free (k*10+9);go_wp2_with fail;go_roundw
   case rel=>exact ⟨k+1,by omega,by go_num,dh ((((((((((HI.out.seto _ _).seto _ _).seto _ _).seto _ _).seto _ _).seto _ _).seto _ _).seto _ _).seto _ _).seto _ _)⟩
   case measure=>simp [intOf]; omega
  ·have hkn:k=g.length:=by omega
   subst hkn;go_wp2_with fail;go_loopw [14] (fun iv wr=>∃ k:Nat,k<=rs.length/\iv=.int .i64 k/\Hid (OverI w W4 wr o l (g.length*10) (rs.length*3))) (fun iv _=>rs.length-(intOf iv).toNat)
   case atStart=>exact ⟨0,Nat.zero_le _,rfl,HI⟩
   case round =>
    clear HI;obtain ⟨k,hk,rfl,HI⟩:=hrel;by_cases hkn:k<rs.length
    ·have hko:(k:Int)<rs.length:=by omega
     obtain ⟨u0,e0⟩:=HI.out.bl.cell (show k*3<rs.length*3 by omega);have f0:=HI.out.bl.free (k*3);obtain ⟨u1,e1⟩:=HI.out.bl.cell (show k*3+1<rs.length*3 by omega);have f1:=HI.out.bl.free (k*3+1);obtain ⟨u2,e2⟩:=HI.out.bl.cell (show k*3+2<rs.length*3 by omega);have f2:=HI.out.bl.free (k*3+2);go_wp2_with fail;go_roundw
     case rel=>exact ⟨k+1,by omega,by go_num,dh (((HI.out.setl _ _).setl _ _).setl _ _)⟩
     case measure=>simp [intOf]; omega
    ·have hkn:k=rs.length:=by omega
     subst hkn;rename World=>V;obtain ⟨_,h400,_,_,_⟩:=opens H0.out;have hA:EnvA V vb g rs:=HM.out V (fun j hj _=>HI.out.oth j (by have:=Hlo2.out; omega) (by have:=Hll2.out; omega));have hT:EnvT V vr g rs (classesOf g) D ga gc ra rc:=HT.out.keep Ho.out.tag Hlr.out.tag HI.out.oth;have hF:EnvF V vr g rs (classesOf g) D:=hT.env (Graph.mono HI.out.ext Hg.out) (Reveals.mono HI.out.ext Hre.out) (classesOf_le g) h400;have HA:=dh hA;have HG:=dh (show EnvG V vr g rs from ⟨H0.out,D,hF,HD.out⟩);have HE:=dh HI.out.ext;clear hA hT hF HM HT HI Ho Hlr HD H0 Hlo2 Hll2 h400;go_wp2_with fail;refine (aboveM HA.out a Hx.out).mono ?_;rintro e w5 ⟨xa,xn,xc,rfl,hxi,hE,hnw⟩;obtain ⟨hx1,hx2⟩:=new_row hnw (SlW.len hxi);have hxb:=(SlW.bound hxi).2;have HE5:=dh hE;have HA5:=dh (HA.out.mono hE);have Hx2:=dh hx2;clear hxi hnw hE hx2;go_wp2_with fail;refine (lineM HA5.out a Hx.out).mono ?_;rintro e w6 ⟨ya,yn,yc,rfl,hyi,hE,hnw⟩;obtain ⟨hy1,hy2⟩:=new_row hnw (SlW.len hyi);have hyb:=(SlW.bound hyi).2;have HR:=dh (show RowsI V w6 xa xn ya yn from ⟨HE5.out.trans hE,fun r e=>⟨(Hx2.out r e).1,(Hx2.out r e).2.ext hE⟩,fun r e=>⟨Nat.le_trans HE5.out.size (hy2 r e).1,(hy2 r e).2⟩⟩);clear hyi hnw hE hy2 Hx2 HA5 HE5;go_wp2_with fail;go_loopw [19] (fun iv wy=>∃ k:Nat,k<=xn/\iv=.int .i64 k/\Hid (RowsI V wy xa xn ya yn)) (fun iv _=>xn-(intOf iv).toNat)
     case atStart=>exact ⟨0,Nat.zero_le _,rfl,HR⟩
     case round =>
      clear HR;obtain ⟨k,hk,rfl,HR⟩:=hrel;by_cases hkn:k<xn
      ·have hko:(k:Int)<xn:=by omega
       obtain ⟨r,rfl⟩:=hx1 (by omega);obtain ⟨u0,e0⟩:=(HR.out.bx r rfl).2.cell hkn;have f0:=(HR.out.bx r rfl).2.free k;go_wp2_with fail;go_roundw
       case rel=>exact ⟨k+1,by omega,by go_num,dh (HR.out.setx _ _)⟩
       case measure=>simp [intOf]; omega
      ·have hkn:k=xn:=by omega
       subst hkn;go_wp2_with fail;go_loopw [20] (fun iv wz=>∃ m:Nat,m<=yn/\iv=.int .i64 m/\Hid (RowsI V wz xa k ya yn)) (fun iv _=>yn-(intOf iv).toNat)
       case atStart=>exact ⟨0,Nat.zero_le _,rfl,HR⟩
       case round =>
        clear HR;obtain ⟨m,hm,rfl,HR⟩:=hrel;by_cases hmn:m<yn
        ·have hmo:(m:Int)<yn:=by omega
         obtain ⟨r,rfl⟩:=hy1 (by omega);obtain ⟨u0,e0⟩:=(HR.out.bY r rfl).2.cell hmn;have f0:=(HR.out.bY r rfl).2.free m;go_wp2_with fail;go_roundw
         case rel=>exact ⟨m+1,by omega,by go_num,dh (HR.out.sety _ _)⟩
         case measure=>simp [intOf]; omega
        ·have hmn:m=yn:=by omega
         subst hmn;have HE:=dh (HE.out.trans HR.out.ext);have HA:=dh (HA.out.mono HR.out.ext);have HG:=dh (HG.out.mono HR.out.ext);clear HR hx1 hy1 hk hm hkn hmn;go_wp2_with fail;refine (aboveA HA.out a Hx.out).mono ?_;rintro e w7 ⟨pa,pn,pc,rfl,hp,hE⟩;have HE:=dh (HE.out.trans hE);have HA:=dh (HA.out.mono hE);have HG:=dh (HG.out.mono hE);have Hp:=dh hp;clear hE hp;go_wp2_with fail;refine (aboveG HG.out a Hx.out).mono ?_;rintro e w8 ⟨qa,qn,qc,rfl,hp,hE⟩;have HE:=dh (HE.out.trans hE);have HA:=dh (HA.out.mono hE);have HG:=dh (HG.out.mono hE);have Hp:=dh (Ints.mono hE Hp.out);have Hq:=dh hp;clear hE hp;go_wp2_with fail;refine (lineA HA.out a Hx.out).mono ?_;rintro e w9 ⟨ra,rn,rc,rfl,hp,hE⟩;have HE:=dh (HE.out.trans hE);have HA:=dh (HA.out.mono hE);have HG:=dh (HG.out.mono hE);have Hp:=dh (Ints.mono hE Hp.out);have Hq:=dh (Ints.mono hE Hq.out);have Hr:=dh hp;clear hE hp;go_wp2_with fail;refine (lineG HG.out a Hx.out).mono ?_;rintro e w10 ⟨sa,sn,sc,rfl,hp,hE⟩;have HE:=dh (HE.out.trans hE);have HA:=dh (HA.out.mono hE);have HG:=dh (HG.out.mono hE);have Hp:=dh (Ints.mono hE Hp.out);have Hq:=dh (Ints.mono hE Hq.out);have Hr:=dh (Ints.mono hE Hr.out);have Hs:=dh hp;clear hE hp;clear HA HG;generalize askedR g.length [a]=z1;have i1:(z1==z1)=true:=by simp
         go_wp2_with fail;refine (ordered15 _).mono ?_;rintro e w11 ⟨rfl,hE⟩;have HE:=dh (HE.out.trans hE);have Hp:=dh (Ints.mono hE Hp.out);have Hq:=dh (Ints.mono hE Hq.out);have Hr:=dh (Ints.mono hE Hr.out);have Hs:=dh (Ints.mono hE Hs.out);clear hE;go_wp2_with fail;refine (sameInts23 _ _ _ _ _ _ _ _ _ Hp.out Hq.out).mono ?_;rintro e w12 ⟨rfl,hE⟩;have HE:=dh (HE.out.trans hE);have Hr:=dh (Ints.mono hE Hr.out);have Hs:=dh (Ints.mono hE Hs.out);clear hE Hp Hq;rw [decide_eq_true rfl];go_wp2_with fail;refine (sameInts23 _ _ _ _ _ _ _ _ _ Hr.out Hs.out).mono ?_;rintro e w13 ⟨rfl,hE⟩;have HE:=dh (HE.out.trans hE);clear hE Hr Hs;rw [decide_eq_true rfl];go_wp2_with fail;go_ret;exact ⟨rfl,HE.out⟩
end
section
open Go.ChangeShapes Go.WideShapes Go.ChangeAt Go.RowKit Go.Proofs
theorem subMemory_lifted (os:Os) (started:os.Started) (H:Type) (enc:TypeId × Value->H) :
  ReturnsInHanded {} Tryz.checked os 6 .any (Rows.subMemorySpec.pre6 enc Tryz.prog Tryz.f6 Rows.subMemoryRow.domain false) (Rows.subMemorySpec.post enc Tryz.prog Tryz.f6 false true false false):=by
 refine returnsInHanded_of_change_sized (C:=Tryz.checked) own started (by kernel_rfl) Tryz.func6
  (ChangeSpec.witness6 (enc:=enc) (C:=Tryz.checked) false ⟨#[],#[.slice none 0 0,.slice none 0 0,.int .i64 0],[]⟩ 8 (by kernel_rfl) (by kernel_rfl) (by kernel_rfl) (by kernel_rfl)) ?_
 intro W base args ds gs before hval0 hW hcnd hsz _;have hval:∀ (j:Nat) t v,Tryz.f6.params[j]? = some t->args[j]? = some v->Value.okWide Tryz.prog W .any base t v:=hval0;have hW':=hW;obtain ⟨p,q,hA0,hV,rfl,hfz,hnd⟩:=hW;have hA:DataW.TrodAll enc Tryz.prog W 0 (fun _=>true) true Tryz.f6.params.toList args.toList ds p:=hA0;have hfit:∀ (j:Nat) (t:TypeId) (d:DataW H),Tryz.f6.params.toList[j]? = some t->ds[j]? = some d->Fits Tryz.prog t d:=fun j t d ht hd=>by
  refine fits_each (ts:=Tryz.f6.params.toList++Rows.subMemorySpec.plain.varTypes Tryz.prog) (ds:=ds++gs) (fun m hm=>of_decide_eq_true (List.all_eq_true.1 hsz m hm)) (j:=j) ?_ ?_
  ·rw [List.getElem?_append_left (List.getElem?_eq_some_iff.1 ht).1]; exact ht
  ·rw [List.getElem?_append_left (List.getElem?_eq_some_iff.1 hd).1]; exact hd
 rw [Tryz.params6] at hA hval hfit;obtain ⟨v0,vs0,d0,ds0,p0,q0,hargs,rfl,rfl,h0,r0⟩:=trodAll_cons hA;obtain ⟨v1,vs1,d1,ds1,p1,q1,rfl,rfl,rfl,h1,r1⟩:=trodAll_cons r0;obtain ⟨v2,vs2,d2,ds2,p2,q2,rfl,rfl,rfl,h2,r2⟩:=trodAll_cons r1;obtain ⟨rfl,rfl,rfl⟩:=trodAll_nil r2;obtain rfl:args=#[v0,v1,v2]:=by cases args; simp_all
 obtain ⟨rfl,rfl⟩:=trodVars_none hV;obtain ⟨a0,n0,c0,g0,rfl,w0⟩:=arg_graph (hval 0 23 v0 rfl rfl) h0 (hfit 0 23 d0 rfl rfl);obtain ⟨a1,n1,c1,g1,rfl,w1⟩:=arg_reveals (hval 1 24 v1 rfl rfl) h1 (hfit 1 24 d1 rfl rfl);obtain ⟨a2,rfl,rfl,rfl,w2⟩:=open_int Tryz.underlying3 (hval 2 3 v2 rfl rfl) h2;clear hA0 hval0 hsz;refine (subMemory6 a0 n0 c0 g0 a1 n1 c1 g1 a2 W w0 w1 (wf_i64 w2)).mono fun e W' ⟨he,bel⟩=>?_;subst he;exact ⟨_,rfl,_,_,_,[],_,[],hW',trodAll_mk1 (shut_bool Tryz.underlying4 _),(trodAll_cons_mk (arg_below (by kernel_rfl) (of_decide_eq_true (by kernel_rfl)) h0 bel) (trodAll_cons_mk (arg_below (by kernel_rfl) (of_decide_eq_true (by kernel_rfl)) h1 bel) (trodAll_cons_mk (shut_int Tryz.underlying3 w2) trodAll_mk0))),rfl,bel.frame _,fun h=>by cases h⟩
theorem subMemory_over:Rows.subMemoryRow.holds Tryz.pinned (OpenSpec.ofChange Rows.subMemorySpec) :=
 OpenClaim.holds_of_wide 6 Tryz.f6 rfl rfl rfl rfl rfl rfl rfl ⟨rfl,rfl,rfl,rfl,rfl⟩ rfl rfl rfl rfl rfl (by kernel_rfl) Tryz.func6 (by kernel_rfl)
  (of_decide_eq_true (by kernel_rfl)) (by unfold Func.isWrapper; first | (rw [if_pos (by decide +kernel)]; kernel_rfl) | (rw [if_neg (by decide +kernel)]; exact ⟨rfl,rfl⟩))
  (fun os started H enc _=>subMemory_lifted os started H enc)
theorem subMemory_holds:Rows.SubMemorySaid:=subMemory_over
#print axioms subMemory_holds
end
end Go.Proofs.YtjffkeoajkhbmaaGreat
