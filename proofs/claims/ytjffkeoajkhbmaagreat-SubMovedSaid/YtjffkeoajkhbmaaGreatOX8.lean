/- The references of a type as a list; the class of a reference. Rows of numbers of one's own; what types.classes reckons. The reference's lists of references, and whether two lists have the same classes. What a loop over an iterator may turn: its footprint. A region that draws its order, and whose last operations write what the first ones read: S holds till the late ones come. -/
import Derived.StillTactics
import Derived.Test.YtjffkeoajkhbmaaGreatOX1
import Derived.Test.YtjffkeoajkhbmaaGreatOX4
import Derived.Test.YtjffkeoajkhbmaaGreatOX6
import Derived.Test.YtjffkeoajkhbmaaGreatOX7
namespace Go.Proofs.YtjffkeoajkhbmaaGreat
set_option linter.unusedSimpArgs false
set_option linter.unusedVariables false
set_option maxRecDepth 100000
set_option maxHeartbeats 8000000
section
open Go.RowKit Go.Proofs
theorem refs137 (a:Option Addr) (n c:Nat) (g:List Ty) (i:Nat) (w:World) (hg:Graph w (.slice a n c) g) (hi:i<n) :
  Calls Tryz.prog 137 #[.agg #[.slice a n c],.int .i64 i] w fun e w'=>∃ bx,e=.returned (.func (.func 165) #[] #[.pointer (some ⟨bx,0,none⟩)])/\Ext w w' /\
   ∃ pa pl pc ma ml mc ov,Box w' bx (nth g i) (.slice pa pl pc) (.slice ma ml mc) ov/\Parts w' (.slice pa pl pc) (nth g i).parts/\Meths w' (.slice ma ml mc) (nth g i).methods:=by
 have hb:=(SlW.bound hg).2;obtain rfl:=SlW.len hg;obtain ⟨xb,xo,pa,pl,pc,ma,ml,mc,oa,ol,oc,hxo,hxl,hx⟩:=Graph.at hg hi;subst hxo;obtain ⟨c0,c1,c2,c3,c4,c5,c6,c7,c8,c9,hps,hms,hos,hok⟩:=hx
 go_enter Tryz.func137,Tryz.ntmps137
 go_wp2;refine bodyPost_ret (v:=.func (.func 165) #[] #[.pointer (some ⟨w.heap.size+1,0,none⟩)]) (by simp [results,Tryz.results137,go_sem]) rfl ⟨_,rfl,(Ext.alloc _ _).trans (Ext.alloc _ _),pa,pl,pc,ma,ml,mc,.slice oa ol oc,heap_alloc2 _ _ _,Parts.mono ((Ext.alloc _ _).trans (Ext.alloc _ _)) hps,Meths.mono ((Ext.alloc _ _).trans (Ext.alloc _ _)) hms⟩
theorem enters165:Enters Tryz.prog 165:=enters_of Tryz.func165 (by kernel_rfl) rfl
theorem collect136 (lb:Array Value) (gf:Nat) (he:∀ args w,(callFunc gf args).run Tryz.prog w=.ok (.enter gf args) w) (xs:List Int) (hlen:xs.length<=100000) (w0 w:World) (hE0:Ext w0 w) (hseq:YieldsInts w0 gf lb xs w) :
  Calls Tryz.prog 136 #[.func (.func gf) #[] lb] w fun e w'=>∃ v,e=.returned v/\w'.ownsRow w.heap.size 3 1 v xs.length (xs.map (Value.int .i64))/\Ext w w':=by
 have Hc:=dh (appendSeq164 gf lb he xs hlen w0 w hE0 hseq);clear hseq he
 go_enter Tryz.func136,Tryz.ntmps136
 go_wp2_with fail;refine Hc.out.mono ?_;rintro e w1 ⟨v,rfl,hown,hE⟩;have Ho:=dh hown; clear hown;have HE:=dh hE; clear hE;go_wp2_with fail;go_ret;exact ⟨v,rfl,Ho.out,HE.out⟩
theorem refs_bound {w:World} {a b:Option Addr} {n c m d:Nat} {x:Ty} (hp:Parts w (.slice a n c) x.parts) (hm:Meths w (.slice b m d) x.methods) (ok:TyOk x) :
  ∀ y,y∈refsOf x->-9223372036854775808<=y/\y<=9223372036854775807:=by
 intro y hy;rw [refsOf_eq] at hy;simp only [List.mem_append,List.mem_flatten,List.mem_map] at hy;rcases hy with (hy | ⟨p,hpm,rfl⟩) | ⟨l,⟨me,hme,rfl⟩,hy⟩
 ·unfold supersOf at hy;split at hy
  ·rw [List.mem_singleton.1 hy]; exact ⟨ok.s0,ok.s1⟩
  ·cases hy
 ·obtain ⟨i,hi,rfl⟩:=List.getElem_of_mem hpm;rw [<- nth_eq hi];obtain ⟨_,_,_,_,_,_,_,h1,h2⟩:=Parts.at hp (show i<n by rw [SlW.len hp]; exact hi);exact ⟨h1,h2⟩
 ·obtain ⟨i,hi,rfl⟩:=List.getElem_of_mem hme;rw [<- nth_eq hi] at hy;obtain ⟨_,_,_,al,_,_,_,_,_,_,_,_,_,_,_,ha,_,h1,h2,_⟩:=Meths.at hm (show i<m by rw [SlW.len hm]; exact hi);unfold methRefs at hy;rcases List.mem_append.1 hy with hy | hy
  ·obtain ⟨k,hk,rfl⟩:=List.getElem_of_mem hy;rw [<- nth_eq hk];obtain ⟨_,_,_,_,_,h3,h4⟩:=Ints.at ha (show k<al by rw [SlW.len ha]; exact hk);exact ⟨h3,h4⟩
  ·split at hy
   ·rw [List.mem_singleton.1 hy]; exact ⟨h1,h2⟩
   ·cases hy
theorem parts_le {g:List Ty} {x:Ty} (h:rightB g x=true):x.parts.length<=8/\x.methods.length<=8/\∀ me,me∈x.methods->signedB g.length me.sig=true:=by
 unfold rightB at h;split at h
 ·simp [noParts,noRows] at h; simp [h]
 split at h
 ·simp only [Bool.and_eq_true,heldB,noRows,beq_iff_eq] at h;obtain ⟨⟨⟨⟨⟨_,h1⟩,_⟩,_⟩,_⟩,h2⟩:=h;have hm:=List.eq_nil_of_length_eq_zero h2.1;refine ⟨?_,by rw [hm]; simp,by rw [hm]; simp⟩
  match x.parts,h1 with
  | [p],_=>simp
 split at h
 ·simp only [Bool.and_eq_true,recordedB,differentB,noRows,beq_iff_eq,decide_eq_true_eq] at h;obtain ⟨⟨⟨⟨⟨_,h1⟩,_⟩,_⟩,_⟩,h2⟩:=h;have hm:=List.eq_nil_of_length_eq_zero h2.1;refine ⟨by simpa using h1.2,by rw [hm]; simp,by rw [hm]; simp⟩
 split at h
 ·simp only [Bool.and_eq_true,objectsB,objectB,differentB,decide_eq_true_eq,List.all_eq_true] at h;obtain ⟨⟨⟨⟨_,h1⟩,⟨⟨⟨⟨h3,_⟩,h2⟩,_⟩,_⟩⟩,_⟩,_⟩:=h;exact ⟨by simpa using h1.2,by simpa using h2.2,fun me hme=>(h3 me hme).1⟩
 split at h
 ·simp [noParts,noRows] at h; simp [h]
 split at h
 ·simp [noParts,noRows] at h; simp [h]
 ·cases h
theorem flatten_le {α:Type} (f:α->List Int) (b:Nat):∀ (xs:List α),(∀ x,x∈xs->(f x).length<=b)->(xs.map f).flatten.length<=xs.length*b
 | [],_=>by simp
 | x :: xs,h=>by
  have h1:=h x (List.mem_cons_self ..);have h2:=flatten_le f b xs (fun y hy=>h y (List.mem_cons_of_mem _ hy));simp only [List.map_cons,List.flatten_cons,List.length_append,List.length_cons];rw [Nat.succ_mul]; omega
theorem refs_len {g:List Ty} {x:Ty} (h:rightB g x=true):(refsOf x).length<=100:=by
 obtain ⟨h1,h2,h3⟩:=parts_le h;rw [refsOf_eq];have hf:=flatten_le methRefs 7 x.methods (fun me hme=>by
  have:=h3 me hme;simp only [signedB,Bool.and_eq_true,decide_eq_true_eq] at this;unfold methRefs;rw [List.length_append];split <;> simp <;> omega)
 have hs:(supersOf x).length<=1:=by unfold supersOf; split <;> simp
 simp only [List.length_append,List.length_map];omega
theorem hasI_iff {n:Nat} {i:Int}:hasI n i=true↔0<=i/\i<n:=by simp [hasI]
theorem parts_in {g:List Ty} {x:Ty} (h:rightB g x=true):∀ p,p∈x.parts->hasI g.length p.type=true:=by
 have hbr:brandedB g x=true->∀ p,p∈x.parts->hasI g.length p.type=true:=fun h=>by
  simp only [brandedB,Bool.and_eq_true,List.all_eq_true] at h;exact h.2
 have hno:noParts x=true->∀ p,p∈x.parts->hasI g.length p.type=true:=fun h p hp=>by
  simp only [noParts,beq_iff_eq] at h;rw [List.eq_nil_of_length_eq_zero h] at hp;cases hp
 unfold rightB at h;split at h
 ·simp only [Bool.and_eq_true] at h; exact hno h.1.2
 split at h
 ·simp only [Bool.and_eq_true,heldB] at h; exact hbr h.1.1.1.1.1
 split at h
 ·simp only [Bool.and_eq_true,recordedB] at h; exact hbr h.1.1.1.1.1.1
 split at h
 ·simp only [Bool.and_eq_true,objectsB] at h; exact hbr h.1.1.1.1
 split at h
 ·simp only [Bool.and_eq_true] at h; exact hno h.1.2
 split at h
 ·simp only [Bool.and_eq_true] at h; exact hno h.1.2
 ·cases h
theorem refs_in {g:List Ty} {x:Ty} (h:rightB g x=true):∀ y,y∈refsOf x->0<=y/\y<g.length:=by
 intro y hy;rw [refsOf_eq] at hy;simp only [List.mem_append,List.mem_flatten,List.mem_map] at hy;rcases hy with (hy | ⟨p,hpm,rfl⟩) | ⟨l,⟨me,hme,rfl⟩,hy⟩
 ·unfold supersOf at hy;split at hy
  ·rename_i hs
   rw [List.mem_singleton.1 hy]; exact right_super h hs
  ·cases hy
 ·exact hasI_iff.1 (parts_in h p hpm)
 ·have hs:=(parts_le h).2.2 me hme;simp only [signedB,Bool.and_eq_true,List.all_eq_true,Bool.or_eq_true,beq_iff_eq] at hs;unfold methRefs at hy;rcases List.mem_append.1 hy with hy | hy
  ·exact hasI_iff.1 (hs.1.2 y hy)
  ·split at hy
   ·rename_i h0
    rw [List.mem_singleton.1 hy];rcases hs.1.1.2 with h1 | h1
    ·omega
    ·exact hasI_iff.1 h1
   ·cases hy
theorem list102 (a:Option Addr) (n c:Nat) (g:List Ty) (i:Nat) (w:World) (hg:Graph w (.slice a n c) g) (hi:i<n) (hr:rightB g (nth g i)=true) :
  Calls Tryz.prog 102 #[.agg #[.slice a n c],.int .i64 i] w fun e w'=>∃ v,e=.returned v/\Ints w' v (refsOf (nth g i))/\Ext w w':=by
 have hlen:=refs_len hr;obtain rfl:=SlW.len hg;have hg1:=Graph.mono (Ext.alloc w (.cells #[.slice a g.length c] 118)) hg;have Hr:=dh (refs137 a _ c g i _ hg1 hi);have HT:=dh (Graph.at hg hi);clear hg1 hr
 go_enter Tryz.func102,Tryz.ntmps102
 go_wp2_with fail;refine Hr.out.mono ?_;rintro e w1 ⟨bx,rfl,hE,pa,pl,pc,ma,ml,mc,ov,hx,hp,hm⟩;have Hy:=dh (refs165 w1 w1 (Ext.refl _) bx _ pa pl pc ma ml mc ov hx hp hm);have Hb:=dh (refs_bound hp hm (by obtain ⟨_,_,_,_,_,_,_,_,_,_,_,_,_,hT⟩:=HT.out; exact hT.ok));have HE:=dh ((Ext.alloc _ _).trans hE); clear hE hx hp hm;go_wp2_with fail;refine (collect136 _ 165 enters165 _ (Nat.le_trans hlen (by decide)) _ _ (Ext.refl _) Hy.out).mono ?_;rintro e w2 ⟨v,rfl,hown,hE⟩;have Ho:=dh (owns_ints hown (by unfold maxBytes; omega) Hb.out); clear hown;have HE2:=dh (HE.out.trans hE); clear hE;go_wp2_with fail;go_ret;exact ⟨v,rfl,Ho.out,HE2.out⟩
theorem class103 (bc:Nat) (a:Option Addr) (n c:Nat) (cl:List Int) (i:Nat) (w:World) (hb:w.cell? ⟨bc,0,none⟩=some (.slice a n c)) (hc:Ints w (.slice a n c) cl) (hi:i<n) :
  Calls Tryz.prog 103 #[.int .i64 i,.pointer (some ⟨bc,0,none⟩)] w fun e w'=>e=.returned (.int .i64 (nth cl i))/\Ext w w':=by
 have hbd:=(SlW.bound hc).2;obtain ⟨xb,xo,rfl,hxl,c0,_⟩:=Ints.at hc hi
 go_enter Tryz.func103,Tryz.ntmps103
 go_wp2;go_ret;exact ⟨rfl,Ext.refl _⟩
theorem class105 (bc:Nat) (a:Option Addr) (n c:Nat) (cl:List Int) (i:Nat) (w:World) (hb:w.cell? ⟨bc,0,none⟩=some (.slice a n c)) (hc:Ints w (.slice a n c) cl) (hi:i<n) :
  Calls Tryz.prog 105 #[.int .i64 i,.pointer (some ⟨bc,0,none⟩)] w fun e w'=>e=.returned (.int .i64 (nth cl i))/\Ext w w':=by
 have hbd:=(SlW.bound hc).2;obtain ⟨xb,xo,rfl,hxl,c0,_⟩:=Ints.at hc hi
 go_enter Tryz.func105,Tryz.ntmps105
 go_wp2;go_ret;exact ⟨rfl,Ext.refl _⟩
theorem enters103:Enters Tryz.prog 103:=enters_of Tryz.func103 (by kernel_rfl) rfl
theorem enters105:Enters Tryz.prog 105:=enters_of Tryz.func105 (by kernel_rfl) rfl
end
section
open Go.RowKit Go.Proofs
def RowI (w:World) (r n:Nat) (F:Nat->Int):Prop:=w.heap[r]? = some (Obj.cells ((List.range n).map fun i=>Value.int .i64 (F i)).toArray 3 (0,0))
theorem RowI.lt {w:World} {r n:Nat} {F:Nat->Int} (h:RowI w r n F):r<w.heap.size:=(Array.getElem?_eq_some_iff.1 h).1
theorem RowI.cell {w:World} {r n:Nat} {F:Nat->Int} (h:RowI w r n F) {i:Nat} (hi:i<n):w.cell? ⟨r,i,none⟩=some (.int .i64 (F i)) :=
 cell_of_heap h (by simp [hi])
theorem RowI.free {w:World} {r n:Nat} {F:Nat->Int} (h:RowI w r n F) (i:Nat):w.frozen? ⟨r,i,none⟩=false:=by
 unfold World.frozen?;rw [show w.heap[(⟨r,i,none⟩:Addr).block]? = _ from h];simp
theorem RowI.congr {w:World} {r n:Nat} {F G:Nat->Int} (h:RowI w r n F) (hF:∀ i,i<n->F i=G i):RowI w r n G:=by
 unfold RowI at h ⊢;rw [h]
 congr 3
 apply List.map_congr_left;intro i hi;rw [hF i (List.mem_range.1 hi)]
theorem RowI.ext {w w':World} {r n:Nat} {F:Nat->Int} (h:RowI w r n F) (hE:Ext w w'):RowI w' r n F:=(hE.block r h.lt).trans h
theorem RowI.kept {w w':World} {r n:Nat} {F:Nat->Int} {b:Option Nat} (h:RowI w r n F) (hg:w.grownBy w' b) (hn:b≠some r):RowI w' r n F:=(hg.block r h.lt (fun e=>hn e.symm)).trans h
theorem RowI.set {w:World} {r n:Nat} {F:Nat->Int} (h:RowI w r n F) (i:Nat) (v:Int):RowI (w.setCell ⟨r,i,none⟩ (.int .i64 v)) r n (fun j=>if j=i then v else F j):=by
 unfold RowI World.setCell;simp only [Array.getElem?_modify,if_true];rw [show w.heap[r]? = _ from h];simp only [Option.map_some,Option.isSome_none,Bool.false_eq_true,if_false]
 congr 2
 refine Array.ext_getElem? fun k=>?_;rw [Array.getElem?_setIfInBounds];by_cases hk:i=k
 ·subst hk;by_cases hi:i<n <;> simp [hi]
 ·rw [if_neg hk];by_cases hi:k<n <;> simp [hi,Ne.symm hk]
theorem RowI.make (w:World) (n:Nat):RowI (w.alloc (.cells (madeCells #[.int .i64 0] n) 3)) w.heap.size n (fun _=>0):=by
 unfold RowI;rw [heap_alloc_new]
 congr 2
 apply Array.ext
 ·simp [size_madeCells]
 ·intro k h1 h2;simp [madeCells,Nat.mod_one]
theorem RowI.ints {w:World} {r n:Nat} {F:Nat->Int} (h:RowI w r n F) (hn:n*8<=maxBytes) (hb:∀ i,i<n->-9223372036854775808<=F i/\F i<=9223372036854775807) :
  Ints w (.slice (some ⟨r,0,none⟩) n n) ((List.range n).map F) :=
 ⟨some ⟨r,0,none⟩,n,by simp,by simp,by simpa using hn,fun i x hi=>by
  have hl:i<n:=by have:=(List.getElem?_eq_some_iff.1 hi).1; simpa using this
  have hx:x=F i:=by simpa [hl] using hi.symm
  subst hx;exact ⟨r,0,_,rfl,⟨rfl,hb i hl⟩,rfl,fun j u hu=>by
   match j,hu with
   | 0,hu=>simp at hu; subst hu; simpa using h.cell hl⟩⟩
theorem makeInts (n:Nat) (hn:n*8<=140737488351232) (w:World):(Instr.makeSlice 35 (.int .i64 n) (.int .i64 n)).run Tryz.prog w=.ok (.slice (some ⟨w.heap.size,0,none⟩) n n) (w.alloc (.cells (madeCells #[.int .i64 0] n) 3)):=by
 obtain ⟨i0,hi,hz0,hz1,hz2⟩:=info_parts info3;have:=run_make (P:=Tryz.prog) w 35 3 i0 (.int .i64 0) Tryz.underlying35 hi hz0 .i64 .i64 n n (by omega) (Int.le_refl _) (by rw [hz2]; omega) (by omega);rw [this,hz1];simp [Value.cells]
def mineOf (g:List Ty) (C:Nat->Nat) (i:Nat):List Int:=(refsOf (nth g i)).map fun r=>(C r.toNat:Int)
def stepQ (g:List Ty) (C:Nat->Nat) (i k:Nat):Bool:=sameB (fun (x y:Int)=>x==y) (mineOf g C i) (mineOf g C k)
def classStep (g:List Ty) (C:Nat->Nat):Nat->Nat:=parted C (stepQ g C)
def class0 (g:List Ty):Nat->Nat:=leadF fun i k=>agreeB (nth g i) (nth g k)
def classIter (g:List Ty):Nat->Nat->Nat
 | 0=>class0 g
 | m+1=>classStep g (classIter g m)
def isFix (g:List Ty) (m:Nat):Bool:=(List.range g.length).all fun i=>classIter g (m+1) i==classIter g m i
def classesOf (g:List Ty):Nat->Nat:=classIter g (((List.range (g.length+1)).find? (isFix g)).getD g.length)
theorem leading_iter (g:List Ty):∀ m,Leading (classIter g m)
 | 0=>leading_leadF _
 | m+1=>leading_leadF _
theorem iter_grows {g:List Ty} {m:Nat} (h:isFix g m=false):leaders g.length (classIter g m)<leaders g.length (classIter g (m+1)):=by
 unfold isFix at h;rw [List.all_eq_false] at h;obtain ⟨i,hi,h1⟩:=h;have h2:¬ classIter g (m+1) i=classIter g m i:=by simpa using h1
 exact leaders_lt (leading_iter g m) _ (List.mem_range.1 hi) h2
theorem classesOf_eq {g:List Ty} {m:Nat} (hm:m<=g.length) (h1:isFix g m=true) (h2:∀ j,j<m->isFix g j=false):classesOf g=classIter g m:=by
 have:(List.range (g.length+1)).find? (isFix g)=some m:=by
  rw [List.find?_range_eq_some];exact ⟨h1,by simp; omega,fun j hj=>by simp [h2 j hj]⟩
 rw [classesOf,this]; rfl
end
section
open Go.RowKit Go.Proofs
def IntC (x:Int) (cs:List Value):Prop:=cs=[.int .i64 x]/\-9223372036854775808<=x/\x<=9223372036854775807
theorem own_later {α:Type} {R:α->List Value->Prop} {e:TypeId} {sz:Nat} {w w':World} {base:Nat} {v:Value} {xs:List α} (h:OwnL R e sz w base v xs) (hE:Ext w w'):OwnL R e sz w' base v xs:=by
 obtain ⟨css,hl,hR,hsz,hown⟩:=h;exact ⟨css,hl,hR,hsz,owns_ext hown hE⟩
theorem own_grown {α:Type} {R:α->List Value->Prop} {e:TypeId} {sz:Nat} {w w' w0:World} {v:Value} {xs:List α} (h:OwnL R e sz w w0.heap.size v xs) (hE:Ext w0 w) (hg:w.grownBy w' v.ownBlock):Ext w0 w' :=
 hE.grown hg hE.size (fun q e=>(h.lt q e).1)
structure RefI (W wr:World) (v:Value) (l:List Int):Prop where
 ext:Ext W wr
 own:OwnL IntC 3 1 wr W.heap.size v l
theorem RefI.push {W wr W1 W2:World} {v v':Value} {l l':List Int} (h:RefI W wr v l) (hE:Ext wr W1) (hO:OwnL IntC 3 1 W2 W.heap.size v' l') (hg:W1.grownBy W2 v.ownBlock):RefI W W2 v' l' :=
 ⟨own_grown (own_later h.own hE) (h.ext.trans hE) hg,hO⟩
end
section
open Go.RowKit Go.Proofs Go.Shelf
structure FootOk (N:Nat) (foot:World->Nat->Prop):Prop where
 ext:∀ W W' j,N<=W.heap.size->Ext W W'->foot W' j->foot W j\/W.heap.size<=j
 new:∀ (W:World) (cs:Array Value) (T:TypeId),N<=W.heap.size->(T≠3\/cs.size<2)->¬ foot (W.alloc (.cells cs T)) W.heap.size
 put:∀ W l o o' j,W.heap[l]? = some o->o.isCells=false->j≠l->foot (W.putObj l o') j->foot W j
structure KpF (n:Nat) (foot:World->Nat->Prop) (W W':World):Prop where
 below:Below n W W'
 cells:∀ (j:Nat) (cs:Array Value) (T:TypeId) (p:Nat × Nat),¬ foot W j->W.heap[j]? = some (Obj.cells cs T p)->W'.heap[j]? = some (Obj.cells cs T p)
 foot:∀ (j:Nat) (cs:Array Value) (T:TypeId) (p:Nat × Nat),W.heap[j]? = some (Obj.cells cs T p)->foot W' j->foot W j
theorem KpF.refl (n:Nat) (foot:World->Nat->Prop) (W:World):KpF n foot W W:=⟨Below.refl _ _,fun _ _ _ _ _ h=>h,fun _ _ _ _ _ h=>h⟩
theorem KpF.out {n:Nat} {foot:World->Nat->Prop} {W W':World} (h:KpF n foot W W') {j:Nat} {cs:Array Value} {T:TypeId} {p:Nat × Nat} (hj:W.heap[j]? = some (Obj.cells cs T p)) (hn:¬ foot W j):¬ foot W' j:=fun hf=>hn (h.foot j cs T p hj hf)
theorem KpF.trans {n:Nat} {foot:World->Nat->Prop} {A B C:World} (h:KpF n foot A B) (k:KpF n foot B C):KpF n foot A C :=
 ⟨h.below.trans k.below,fun j cs T p hn hj=>k.cells j cs T p (h.out hj hn) (h.cells j cs T p hn hj),fun j cs T p hj hf=>by
  by_cases hn:foot A j
  ·exact hn
  ·exact h.foot j cs T p hj (k.foot j cs T p (h.cells j cs T p hn hj) hf)⟩
theorem KpF.put {n:Nat} {foot:World->Nat->Prop} {N:Nat} (hok:FootOk N foot) {w:World} (hn:n<=w.heap.size) (W:World) (l:Nat) (o o':Obj) (hl:w.heap.size<=l) (h:W.heap[l]? = some o) (ho:o.isCells=false) (hw:o.isWalk=false):KpF n foot W (W.putObj l o') :=
 ⟨belowK_b hn W l o o' hl h ho hw,fun j cs T p _ hj=>Keep.put o' h ho j cs p hj,fun j cs T p hj hf=>hok.put W l o o' j h ho (fun e=>by subst e; rw [h] at hj; cases hj; cases ho) hf⟩
def Safe (foot:World->Nat->Prop) (W:World) (b:Nat) (cs:Array Value) (T:TypeId):Prop:=W.heap[b]? = some (Obj.cells cs T (0,0))/\¬ foot W b
theorem Safe.kept {n:Nat} {foot:World->Nat->Prop} {W W':World} {b:Nat} {cs:Array Value} {T:TypeId} (h:Safe foot W b cs T) (k:KpF n foot W W'):Safe foot W' b cs T :=
 ⟨k.cells _ _ _ _ h.2 h.1,k.out h.1 h.2⟩
theorem Safe.new {N:Nat} {foot:World->Nat->Prop} (hok:FootOk N foot) (W:World) (hN:N<=W.heap.size) (cs:Array Value) (T:TypeId) (hT:T≠3\/cs.size<2):Safe foot (W.alloc (.cells cs T)) W.heap.size cs T :=
 ⟨heap_alloc_new W _,hok.new W cs T hN hT⟩
theorem Safe.ext {N:Nat} {foot:World->Nat->Prop} (hok:FootOk N foot) {W W':World} {b:Nat} {cs:Array Value} {T:TypeId} (h:Safe foot W b cs T) (hN:N<=W.heap.size) (hE:Ext W W'):Safe foot W' b cs T :=
 ⟨(hE.block b (Array.getElem?_eq_some_iff.1 h.1).1).trans h.1,fun hf=>(hok.ext _ _ _ hN hE hf).elim h.2 (fun h'=>by have:=(Array.getElem?_eq_some_iff.1 h.1).1; omega)⟩
theorem KpF.ext {N n:Nat} {foot:World->Nat->Prop} (hok:FootOk N foot) {W W':World} (hn:n<=W.heap.size) (hN:N<=W.heap.size) (hE:Ext W W'):KpF n foot W W' :=
 ⟨Below.mono hE hn,fun j _ _ _ _ hj=>(hE.block j (Array.getElem?_eq_some_iff.1 hj).1).trans hj,fun j cs T p hj hf=>(hok.ext _ _ _ hN hE hf).elim id (fun h=>by have:=(Array.getElem?_eq_some_iff.1 hj).1; omega)⟩
theorem Safe.cell {foot:World->Nat->Prop} {W:World} {b:Nat} {cs:Array Value} {T:TypeId} (h:Safe foot W b cs T) {j:Nat} {v:Value} (hj:cs[j]? = some v):W.cell? ⟨b,j,none⟩=some v:=by
 unfold World.cell?;rw [show W.heap[(⟨b,j,none⟩:Addr).block]? = some (.cells cs T (0,0)) from h.1];exact hj
structure Stp where
 rule:Nat
 to_:Nat
 n:Nat
deriving DecidableEq
def encStp (s:Stp):Array Value:=#[.agg #[.int .u8 s.rule,.int .i64 s.to_,.int .i64 s.n]]
end
section
open Go.RowKit Go.Proofs
section
variable {P:Program} {ops:Array Oper} {Q:Exit->Act->World->Prop} {md:Region.Mode} {S:World->Prop} {late:List Nat}
def early (late:List Nat) (listed:Array Bool):Bool:=late.all fun j=>listed.getD j true==false
def wpL (P:Program) (md:Region.Mode) (ops:Array Oper) (late:List Nat) (Q:Exit->Act->World->Prop) (S:World->Prop):Nat->Array Bool->Act->World->Prop
 | 0,listed,a,w=>Region.ready md ops listed=[]/\Q .normal a w
 | fuel+1,listed,a,w =>
  (Region.ready md ops listed=[]->Q .normal a w) /\
  ∀ i∈Region.ready md ops listed,wpOp P ops Q i (fun a' w'=>(early late (listed.setIfInBounds i true)=true->S w')/\wpL P md ops late Q S fuel (listed.setIfInBounds i true) a' w') a w
theorem wpAny_of_L:∀ (fuel:Nat) (listed:Array Bool) (a:Act) (w:World),wpL P md ops late Q S fuel listed a w->wpAny P md ops Q fuel listed a w
 | 0,_,_,_,h=>h
 | fuel+1,_,_,_,h=>⟨h.1,fun i hi=>wpOp_mono (fun a' w' h'=>wpAny_of_L fuel _ a' w' h'.2) (h.2 i hi)⟩
theorem wp_region_L {id:Nat} {a:Act} {w:World} (late:List Nat) (S:World->Prop) (hm:P.follows .mixedOrders=true)
  (h:wpL P .any ops late Q S ops.size (Array.replicate ops.size false) a w.drew):(Code.region id ops true).wp P Q a w :=
 wp_region_any hm (wpAny_of_L _ _ _ _ h)
theorem early_set {listed:Array Bool} {i:Nat} (h:early late listed=true) (hi:late.contains i=false):early late (listed.setIfInBounds i true)=true:=by
 unfold early at h ⊢;rw [List.all_eq_true] at h ⊢;intro j hj;have hij:i≠j:=fun e=>by
  subst e;have:late.contains i=true:=by simpa using hj
  rw [this] at hi; cases hi
 rw [getD_set_ne true hij];exact h j hj
theorem wpL_first {T:World->Prop} {i:Nat} {oi:Oper} {v:Value} (hi:ops[i]? = some oi) (hsel:∀ (j:Nat) (o:Oper) cs b,ops[j]? = some o->o.op≠.select cs b)
  (hil:late.contains i=false)
  (hT:(∀ w,T w)\/(T=S/\∀ j oj,ops[j]? = some oj->late.contains j=true->∃ e∈oj.after,Region.binds md e=true/\e.on=i))
  (hQ:∀ c a w,Q (.panic c) (a.put oi.dst v) w->Q (.panic c) a w) :
  ∀ (fuel:Nat) (listed:Array Bool) (a:Act) (w:World),
   (∀ j oj,ops[j]? = some oj->j≠i->listed.getD j true=false->(∀ e∈oj.after,Region.binds md e=true->e.on≠i)->oi.apart ops oj=true) ->
   i∈Region.ready md ops listed->YieldsIf P ops T oi v a->T w->((∀ w,T w)\/early late listed=true)->(early late (listed.setIfInBounds i true)=true->S w) ->
   wpL P md ops late Q S fuel (listed.setIfInBounds i true) (a.put oi.dst v) w->wpL P md ops late Q S (fuel+1) listed a w:=by
 intro fuel
 induction fuel with
 | zero =>
  intro listed a w _ hr hy hTw _ hS H;refine ⟨fun h=>(by rw [h] at hr; cases hr),fun j hj=>?_⟩;by_cases hji:j=i
  ·subst hji; exact hy.wpOp hi hTw ⟨hS,H⟩
  ·have:=ready_mono hj hji;rw [H.1] at this;cases this
 | succ fuel ih =>
  intro listed a w hfree hr hy hTw hE hS H;refine ⟨fun h=>(by rw [h] at hr; cases hr),fun j hj=>?_⟩;by_cases hji:j=i
  ·subst hji; exact hy.wpOp hi hTw ⟨hS,H⟩
  ·have h1:=H.2 j (ready_mono hj hji);obtain ⟨hjun,oj,hoj,hall⟩:=mem_ready.1 hj;have hnot:∀ e∈oj.after,Region.binds md e=true->e.on≠i:=fun e he hb heq=>by
    have h1:=hall e he hb;have h0:=(mem_ready.1 hr).1;rw [heq] at h1;rcases Nat.lt_or_ge i listed.size with h' | h'
    ·simp [h'] at h0 h1; rw [h0] at h1; cases h1
    ·simp [Array.getElem?_eq_none h'] at h1
   have h2:=wpOp_putIf hoj (hfree j oj hoj hji hjun hnot) (fun cs b=>hsel i oi cs b hi) (fun cs b=>hsel j oj cs b hoj) hQ hy h1;have hfree':∀ k ok,ops[k]? = some ok->k≠i->(listed.setIfInBounds j true).getD k true=false ->
     (∀ e∈ok.after,Region.binds md e=true->e.on≠i)->oi.apart ops ok=true:=fun k ok hk hki hun hno=>by
    refine hfree k ok hk hki ?_ hno;by_cases hjk:j=k
    ·subst hjk; exact hjun
    ·rw [getD_set_ne true hjk] at hun; exact hun
   have hcomm:=Array.setIfInBounds_comm (xs:=listed) true true (Ne.symm hji);have hjl:(T=S/\∀ j oj,ops[j]? = some oj->late.contains j=true->∃ e∈oj.after,Region.binds md e=true/\e.on=i)->late.contains j=false:=fun hs=>by
    cases hc:late.contains j with
    | false=>rfl
    | true =>
     obtain ⟨e,he,hb,hon⟩:=hs.2 j oj hoj hc;exact absurd hon (hnot e he hb)
   refine wpOp_mono (fun a' w' h3=>?_) h2;have hS':early late ((listed.setIfInBounds j true).setIfInBounds i true)=true->S w':=by rw [<- hcomm]; exact h3.2.1
   have hTw':T w':=by
    rcases hT with h0 | hs
    ·exact h0 w'
    ·rcases hE with h0 | hE
     ·exact h0 w'
     ·rw [hs.1];exact hS' (early_set (early_set hE (hjl hs)) hil)
   have hE':(∀ w,T w)\/early late (listed.setIfInBounds j true)=true:=by
    rcases hT with h0 | hs
    ·exact Or.inl h0
    ·rcases hE with h0 | hE
     ·exact Or.inl h0
     ·exact Or.inr (early_set hE (hjl hs))
   refine ⟨fun he=>?_,ih (listed.setIfInBounds j true) a' w' hfree' (ready_mono hr (Ne.symm hji)) h3.1 hTw' hE' hS' ?_⟩
   ·exact hS' (early_set he hil)
   ·rw [<- hcomm];exact h3.2.2
def behind (md:Region.Mode) (ops:Array Oper) (late:List Nat) (i:Nat):Bool :=
 late.all fun j=>match ops[j]? with | none=>true | some o=>o.after.any fun e=>Region.binds md e&&e.on==i
theorem behind_spec {i:Nat} (h:behind md ops late i=true):∀ j oj,ops[j]? = some oj->late.contains j=true->∃ e∈oj.after,Region.binds md e=true/\e.on=i:=by
 intro j oj hoj hj;unfold behind at h;rw [List.all_eq_true] at h;have:=h j (by simpa using hj);rw [hoj] at this;simp only [Array.any_eq_true,Bool.and_eq_true,beq_iff_eq] at this;obtain ⟨k,hk,hb,he⟩:=this;exact ⟨_,Array.getElem_mem hk,hb,he⟩
theorem wpL_read {i:Nat} {oi:Oper} {v:Value} {fuel:Nat} {listed:Array Bool} {a:Act} {w:World} (hi:ops[i]? = some oi)
  (hs:Region.noSelect ops=true) (hf:Region.free md ops listed i=true) (hr:(Region.ready md ops listed).contains i=true) (hl:(!late.contains i&&behind md ops late i&&early late listed)=true)
  (hQ:∀ c a w,Q (.panic c) (a.put oi.dst v) w->Q (.panic c) a w) (hy:YieldsIf P ops S oi v a) (hS:S w)
  (h:wpL P md ops late Q S fuel (listed.setIfInBounds i true) (a.put oi.dst v) w):wpL P md ops late Q S (fuel+1) listed a w:=by
 simp only [Bool.and_eq_true,Bool.not_eq_true'] at hl;exact wpL_first hi (Region.noSelect_spec hs) hl.1.1 (Or.inr ⟨rfl,behind_spec hl.1.2⟩) hQ fuel listed a w (Region.free_spec hi hf) (by simpa using hr) hy hS (Or.inr hl.2) (fun _=>hS) h
theorem wpL_pure {i:Nat} {oi:Oper} {v:Value} {fuel:Nat} {listed:Array Bool} {a:Act} {w:World} (hi:ops[i]? = some oi)
  (hs:Region.noSelect ops=true) (hf:Region.free md ops listed i=true) (hr:(Region.ready md ops listed).contains i=true) (hl:(!late.contains i)=true)
  (hQ:∀ c a w,Q (.panic c) (a.put oi.dst v) w->Q (.panic c) a w) (hy:YieldsIf P ops (fun _=>True) oi v a) (hS:S w)
  (h:wpL P md ops late Q S fuel (listed.setIfInBounds i true) (a.put oi.dst v) w):wpL P md ops late Q S (fuel+1) listed a w :=
 wpL_first hi (Region.noSelect_spec hs) (by simpa using hl) (Or.inl fun _=>trivial) hQ fuel listed a w (Region.free_spec hi hf) (by simpa using hr) hy trivial (Or.inl fun _=>trivial) (fun _=>hS) h
theorem wpL_only {i:Nat} {oi:Oper} {fuel:Nat} {listed:Array Bool} {a:Act} {w:World} (hi:ops[i]? = some oi) (hr:Region.ready md ops listed=[i])
  (h:∀ K:Act->World->Prop,(∀ a' w',(early late (listed.setIfInBounds i true)=true->S w')->wpL P md ops late Q S fuel (listed.setIfInBounds i true) a' w'->K a' w') ->
   if Region.wanted oi (yielded ops a.tmps) then oi.wp P a w K Q else K (a.put oi.dst undef) w):wpL P md ops late Q S (fuel+1) listed a w:=by
 refine ⟨fun h0=>absurd (hr ▸ h0) (by simp),fun j hj=>?_⟩;rw [hr] at hj;obtain rfl:=List.mem_singleton.1 hj;have:=h (fun a' w'=>(early late (listed.setIfInBounds j true)=true->S w')/\wpL P md ops late Q S fuel (listed.setIfInBounds j true) a' w') (fun a' w' hE hX=>⟨hE,hX⟩);unfold wpOp;simp only [hi];split
 ·rename_i hw; rw [if_pos hw] at this; exact .inl this
 ·rename_i hw; rw [if_neg hw] at this; exact this
theorem wpL_done {fuel:Nat} {listed:Array Bool} {a:Act} {w:World} (hr:Region.ready md ops listed=[]) (h:Q .normal a w):wpL P md ops late Q S fuel listed a w:=by
 cases fuel with
 | zero=>exact ⟨hr,h⟩
 | succ fuel=>exact ⟨fun _=>h,by rw [hr]; simp⟩
end
section
variable {P:Program} {ops:Array Oper} {Q:Exit->Act->World->Prop} {md:Region.Mode} {S:World->Prop} {late:List Nat}
theorem Yt (i:Nat) {oi:Oper} {v:Value} {fuel:Nat} {listed l1:Array Bool} {a a1:Act} {w:World} (hi:ops[i]? = some oi) (h0:∀ w',S w'->(execOp a.eval oi).run P w'=.ok (.value v) w') (hS:S w) (h:wpL P md ops late Q S fuel l1 a1 w) (hs:Region.noSelect ops=true:=by kernel_rfl) (hf:Region.free md ops listed i=true:=by kernel_rfl) (hr:(Region.ready md ops listed).contains i=true:=by kernel_rfl) (hl:(!late.contains i&&behind md ops late i&&early late listed)=true:=by kernel_rfl) (hQ:∀ c a w,Q (.panic c) (a.put oi.dst v) w->Q (.panic c) a w:=by exact fun _ _ _ h=>h) (hw:Region.wanted oi (yielded ops a.tmps)=true:=by kernel_rfl) (hp:a.put oi.dst v=a1:=by first | ((try simp only [Act.put,nm]); with_reducible rfl) | (simp only [Act.put,nm]; done)) (hl1:listed.setIfInBounds i true=l1:=by first | ((try simp only [Act.put,nm]); with_reducible rfl) | (simp only [Act.put,nm]; done)):wpL P md ops late Q S (fuel+1) listed a w:=by
 subst hp; subst hl1; exact wpL_read hi hs hf hr hl hQ (Or.inl ⟨hw,h0⟩) hS h
theorem Yp (i:Nat) {oi:Oper} {v:Value} {fuel:Nat} {listed l1:Array Bool} {a a1:Act} {w:World} (hS:S w) (h:wpL P md ops late Q S fuel l1 a1 w) (hi:ops[i]? = some oi:=by exact rfl) (h0:∀ w',True->(execOp a.eval oi).run P w'=.ok (.value v) w':=by intro w9 hE; clear hE; first | (go_simp; done) | (go_simp; with_reducible rfl)) (hs:Region.noSelect ops=true:=by kernel_rfl) (hf:Region.free md ops listed i=true:=by kernel_rfl) (hr:(Region.ready md ops listed).contains i=true:=by kernel_rfl) (hl:(!late.contains i)=true:=by kernel_rfl) (hQ:∀ c a w,Q (.panic c) (a.put oi.dst v) w->Q (.panic c) a w:=by exact fun _ _ _ h=>h) (hw:Region.wanted oi (yielded ops a.tmps)=true:=by kernel_rfl) (hp:a.put oi.dst v=a1:=by first | ((try simp only [Act.put,nm]); with_reducible rfl) | (simp only [Act.put,nm]; done)) (hl1:listed.setIfInBounds i true=l1:=by first | ((try simp only [Act.put,nm]); with_reducible rfl) | (simp only [Act.put,nm]; done)):wpL P md ops late Q S (fuel+1) listed a w:=by
 subst hp; subst hl1; exact wpL_pure hi hs hf hr hl hQ (Or.inl ⟨hw,h0⟩) hS h
theorem Ys (i:Nat) {oi:Oper} {fuel:Nat} {listed l1:Array Bool} {a a1:Act} {w:World} (hS:S w) (h:wpL P md ops late Q S fuel l1 a1 w) (hi:ops[i]? = some oi:=by exact rfl) (hs:Region.noSelect ops=true:=by kernel_rfl) (hf:Region.free md ops listed i=true:=by kernel_rfl) (hr:(Region.ready md ops listed).contains i=true:=by kernel_rfl) (hl:(!late.contains i)=true:=by kernel_rfl) (hQ:∀ c a w,Q (.panic c) (a.put oi.dst undef) w->Q (.panic c) a w:=by exact fun _ _ _ h=>h) (hw:Region.wanted oi (yielded ops a.tmps)=false:=by kernel_rfl) (hp:a.put oi.dst undef=a1:=by first | ((try simp only [Act.put,nm]); with_reducible rfl) | (simp only [Act.put,nm]; done)) (hl1:listed.setIfInBounds i true=l1:=by first | ((try simp only [Act.put,nm]); with_reducible rfl) | (simp only [Act.put,nm]; done)):wpL P md ops late Q S (fuel+1) listed a w:=by
 subst hp; subst hl1; exact wpL_pure hi hs hf hr hl hQ (Or.inr ⟨hw,rfl⟩) hS h
end
end
end Go.Proofs.YtjffkeoajkhbmaaGreat
