/- The reference's Field and Method. The reference's ends, Line and Assign. The graph without types that are the same as others. Plain Lean. How the data of a call read as numbers in a row. A list that grows in new memory, with what its elements hold; the library's turned over parts and methods. The law SubMemory, walked: an environment keeps nothing of its arguments, and what it answers is new memory. -/
import Derived.StillTactics
import Derived.Test.YtjffkeoajkhbmaaGreatOX8
import Derived.Test.YtjffkeoajkhbmaaGreatOX20
import Derived.Test.YtjffkeoajkhbmaaGreatOX30
import Derived.Test.YtjffkeoajkhbmaaGreatOX32
import Derived.Test.YtjffkeoajkhbmaaGreatOX33
namespace Go.Proofs.YtjffkeoajkhbmaaGreat
set_option linter.unusedSimpArgs false
set_option linter.unusedVariables false
set_option maxRecDepth 100000
set_option maxHeartbeats 8000000
section
open Go.RowKit Go.Proofs Go.Shelf
end
section
open Go.RowKit Go.Proofs Go.Shelf
end
section
open Go.RowKit Go.Proofs
theorem iter_down {g:List Ty} {i j:Nat}:∀ m,classIter g m i=classIter g m j->class0 g i=class0 g j
 | 0,h=>h
 | m+1,h=>iter_down m ((step_iff i j).1 h).1
theorem same_agree {g:List Ty} {i j:Nat} (h:classesOf g i=classesOf g j):agreeB (nth g i) (nth g j)=true:=(class0_iff i j).1 (iter_down _ h)
theorem same_refs {g:List Ty} (hr:∀ i,i<g.length->rightB g (nth g i)=true) {i j:Nat} (hi:i<g.length) (hj:j<g.length) (h:classesOf g i=classesOf g j):mineOf g (classesOf g) i=mineOf g (classesOf g) j:=by
 obtain ⟨m,h1,h2,h3⟩:=fix_some g;rw [classesOf_eq h1 h2 h3] at h ⊢;have hf:∀ i,i<g.length->classIter g (m+1) i=classIter g m i:=fun i hi=>iter_rest hr h2 1 i hi;exact ((step_iff i j).1 (show classIter g (m+1) i=classIter g (m+1) j by rw [hf i hi,hf j hj,h])).2
theorem sameB_all {α:Type} {eq:α->α->Bool} (he:∀ x y,eq x y=true->x=y):∀ {l m:List α},sameB eq l m=true->l=m
 | [],[],_=>rfl
 | x :: l,y :: m,h=>by
  simp only [sameB,Bool.and_eq_true] at h;rw [he x y h.1,sameB_all he h.2]
 | [],_ :: _,h=>by simp [sameB] at h
 | _ :: _,[],h=>by simp [sameB] at h
theorem parts_ext:∀ {l m:List Part},sameB partEq l m=true->l.map (·.type)=m.map (·.type)->l=m
 | [],[],_,_=>rfl
 | x :: l,y :: m,h,k=>by
  simp only [sameB,Bool.and_eq_true] at h;simp only [List.map_cons,List.cons.injEq] at k;obtain ⟨n1,t1⟩:=x;obtain ⟨n2,t2⟩:=y;have h1:=h.1;unfold partEq at h1;rw [beq_iff_eq] at h1;simp only at h1 k;rw [h1,k.1,parts_ext h.2 k.2]
 | [],_ :: _,h,_=>by simp [sameB] at h
 | _ :: _,[],h,_=>by simp [sameB] at h
def sigRefs (m:Meth):List Int:=m.sig.args++(if 0<=m.sig.result then [m.sig.result] else [])
theorem sig_ext {x y:Meth} (h:methEq x y=true) (hx:0<=x.sig.result\/x.sig.result=-1) (hy:0<=y.sig.result\/y.sig.result=-1) (k:sigRefs x=sigRefs y):x=y:=by
 unfold methEq at h;simp only [Bool.and_eq_true,beq_iff_eq] at h;obtain ⟨⟨⟨⟨h1,h2⟩,h3⟩,h4⟩,h5⟩:=h;have h5:=sameB_all (fun a b e=>by rwa [beq_iff_eq] at e) h5;unfold sigRefs at k;obtain ⟨k1,k2⟩:=List.append_inj k h3;have k3:x.sig.result=y.sig.result:=by
  rcases hx with hx | hx <;> rcases hy with hy | hy
  ·rw [if_pos hx,if_pos hy] at k2;exact (List.cons.inj k2).1
  ·rw [decide_eq_false (by omega),decide_eq_true (by omega)] at h4; cases h4
  ·rw [decide_eq_true (by omega),decide_eq_false (by omega)] at h4; cases h4
  ·omega
 obtain ⟨n1,⟨a1,r1,s1⟩,p1⟩:=x;obtain ⟨n2,⟨a2,r2,s2⟩,p2⟩:=y;simp only at h1 h2 h5 k1 k3;rw [h1,h2,h5,k1,k3]
theorem sig_len {x y:Meth} (h:methEq x y=true):(sigRefs x).length=(sigRefs y).length:=by
 unfold methEq at h;simp only [Bool.and_eq_true,beq_iff_eq] at h;unfold sigRefs;rw [List.length_append,List.length_append,h.1.1.2]
 congr 1
 have h4:=h.1.2;by_cases hx:x.sig.result<0 <;> by_cases hy:y.sig.result<0
 ·rw [if_neg (by omega),if_neg (by omega)]
 ·rw [decide_eq_true hx,decide_eq_false hy] at h4; cases h4
 ·rw [decide_eq_false hx,decide_eq_true hy] at h4; cases h4
 ·rw [if_pos (by omega),if_pos (by omega)]; rfl
theorem meths_ext:∀ {l m:List Meth},sameB methEq l m=true->(∀ x,x∈l->0<=x.sig.result\/x.sig.result=-1)->(∀ x,x∈m->0<=x.sig.result\/x.sig.result=-1)->(l.map sigRefs).flatten=(m.map sigRefs).flatten->l=m
 | [],[],_,_,_,_=>rfl
 | x :: l,y :: m,h,hl,hm,k=>by
  simp only [sameB,Bool.and_eq_true] at h;simp only [List.map_cons,List.flatten_cons] at k;obtain ⟨k1,k2⟩:=List.append_inj k (sig_len h.1);rw [sig_ext h.1 (hl x (List.mem_cons_self ..)) (hm y (List.mem_cons_self ..)) k1,meths_ext h.2 (fun z hz=>hl z (List.mem_cons_of_mem _ hz)) (fun z hz=>hm z (List.mem_cons_of_mem _ hz)) k2]
 | [],_ :: _,h,_,_,_=>by simp [sameB] at h
 | _ :: _,[],h,_,_,_=>by simp [sameB] at h
theorem ty_ext {x y:Ty} (h:agreeB x y=true) (k:refsOf x=refsOf y) (hs:hasSuperB x.kind=false->x.super=y.super)
  (hx:∀ m,m∈x.methods->0<=m.sig.result\/m.sig.result=-1) (hy:∀ m,m∈y.methods->0<=m.sig.result\/m.sig.result=-1):x=y:=by
 unfold agreeB plainEq at h;simp only [Bool.and_eq_true,beq_iff_eq] at h;obtain ⟨⟨⟨⟨⟨⟨⟨⟨h1,h2⟩,h3⟩,h4⟩,h5⟩,h6⟩,h7⟩,h8⟩,h9⟩:=h;have h9:=sameB_all (fun a b e=>by
  unfold overEq at e;simp only [Bool.and_eq_true,beq_iff_eq] at e;obtain ⟨n1,p1⟩:=a;obtain ⟨n2,p2⟩:=b;simp only at e;rw [e.1,e.2]) h9
 unfold refsOf at k;rw [h1] at k;obtain ⟨k1,k2⟩:=List.append_inj k (by
  rw [List.length_append,List.length_append,List.length_map,List.length_map,sameB_len h7]
  congr 1
  cases hasSuperB y.kind <;> rfl)
 obtain ⟨k3,k4⟩:=List.append_inj k1 (by cases hasSuperB y.kind <;> rfl);have hsup:x.super=y.super:=by
  cases hb:hasSuperB y.kind
  ·exact hs (by rw [h1]; exact hb)
  ·rw [hb] at k3;exact (List.cons.inj k3).1
 have hp:=parts_ext h7 k4;have hm:=meths_ext h8 hx hy k2;obtain ⟨q1,q2,q3,q4,q5,q6,q7,q8,q9,q10⟩:=x;obtain ⟨w1,w2,w3,w4,w5,w6,w7,w8,w9,w10⟩:=y;simp only at h1 h2 h3 h4 h5 h6 hsup hp hm h9;rw [h1,h2,h3,h4,h5,h6,hsup,hp,hm,h9]
theorem right_noSuper {g:List Ty} {x:Ty} (h:rightB g x=true) (hs:hasSuperB x.kind=false):x.super=0:=by
 unfold rightB at h;unfold hasSuperB at hs;simp only [Bool.or_eq_false_iff,beq_eq_false_iff_ne] at hs;have key:noSuper x=true->x.super=0:=fun h=>by unfold noSuper at h; rwa [beq_iff_eq] at h
 by_cases k3:x.kind=3
 ·rw [if_pos k3] at h; simp only [Bool.and_eq_true] at h; exact key h.1.1.2
 rw [if_neg k3] at h;by_cases k9:x.kind=9\/x.kind=11
 ·rw [if_pos k9] at h; simp only [Bool.and_eq_true] at h; exact key h.1.2
 rw [if_neg k9] at h;by_cases k10:x.kind=10
 ·rw [if_pos k10] at h; simp only [Bool.and_eq_true] at h; exact key h.1.2
 rw [if_neg k10,if_neg hs.1,if_neg hs.2] at h;by_cases k1:1<=x.kind/\x.kind<=8
 ·rw [if_pos k1] at h; simp only [Bool.and_eq_true] at h; exact key h.1.1.2
 ·rw [if_neg k1] at h; cases h
theorem right_results {g:List Ty} {x:Ty} (h:rightB g x=true):∀ m,m∈x.methods->(0<=m.sig.result/\m.sig.result<g.length)\/m.sig.result=-1:=fun m hm=>by
 have hno:noRows x=true->False:=fun h=>by
  unfold noRows at h;simp only [Bool.and_eq_true,beq_iff_eq] at h;rw [List.eq_nil_of_length_eq_zero h.1] at hm;cases hm
 unfold rightB at h;by_cases k3:x.kind=3
 ·rw [if_pos k3] at h; simp only [Bool.and_eq_true] at h; exact absurd h.2 hno
 rw [if_neg k3] at h;by_cases k9:x.kind=9\/x.kind=11
 ·rw [if_pos k9] at h; simp only [Bool.and_eq_true] at h; exact absurd h.2 hno
 rw [if_neg k9] at h;by_cases k10:x.kind=10
 ·rw [if_pos k10] at h; simp only [Bool.and_eq_true] at h; exact absurd h.2 hno
 rw [if_neg k10] at h;by_cases k12:x.kind=12
 ·rw [if_pos k12] at h;simp only [Bool.and_eq_true] at h;have h1:=h.1.1;unfold objectsB objectB at h1;simp only [Bool.and_eq_true,List.all_eq_true] at h1;have h2:=(h1.2.1.1.1.1 m hm).1;unfold signedB hasI at h2;simp only [Bool.and_eq_true,Bool.or_eq_true,beq_iff_eq,decide_eq_true_eq] at h2;rcases h2.1.1.2 with e | e
  ·exact Or.inr e
  ·exact Or.inl e
 rw [if_neg k12] at h;by_cases k13:x.kind=13
 ·rw [if_pos k13] at h; simp only [Bool.and_eq_true] at h; exact absurd h.2 hno
 rw [if_neg k13] at h;by_cases k1:1<=x.kind/\x.kind<=8
 ·rw [if_pos k1] at h; simp only [Bool.and_eq_true] at h; exact absurd h.2 hno
 ·rw [if_neg k1] at h; cases h
def leads9 (C:Nat->Nat) (n:Nat):List Nat:=(List.range n).filter fun i=>C i==i
def place9 (C:Nat->Nat) (c:Nat):Nat:=(leads9 C c).length
def toM (g:List Ty) (i:Nat):Nat:=place9 (classesOf g) (classesOf g i)
def mergeG (g:List Ty):List Ty:=(leads9 (classesOf g) g.length).map fun i=>relT (toM g) (nth g i)
theorem leads_snoc (C:Nat->Nat) (n:Nat):leads9 C (n+1)=leads9 C n++(if C n==n then [n] else []):=by
 unfold leads9;rw [List.range_succ,List.filter_append];cases h:C n==n <;> simp [h]
theorem place_mono (C:Nat->Nat) {c d:Nat} (h:c<=d):place9 C c<=place9 C d:=by
 induction d with
 | zero=>rw [Nat.le_zero.1 h]; exact Nat.le_refl _
 | succ d ih =>
  rcases Nat.lt_or_ge c (d+1) with h1 | h1
  ·refine Nat.le_trans (ih (by omega)) ?_;unfold place9;rw [leads_snoc,List.length_append];omega
  ·rw [show c=d+1 by omega]; exact Nat.le_refl _
theorem place_lt {C:Nat->Nat} {c n:Nat} (hc:c<n) (hl:C c=c):place9 C c<place9 C n:=by
 have h1:=place_mono C (show c+1<=n by omega);unfold place9 at h1 ⊢;rw [leads_snoc,List.length_append] at h1;have:(if C c==c then [c] else []).length=1:=by rw [if_pos (by simpa using hl)]; rfl
 omega
theorem place_get {C:Nat->Nat}:∀ {n c:Nat},c<n->C c=c->(leads9 C n)[place9 C c]? = some c
 | 0,c,h,_=>absurd h (Nat.not_lt_zero _)
 | n+1,c,h,hl=>by
  rw [leads_snoc];rcases Nat.lt_or_ge c n with h1 | h1
  ·rw [List.getElem?_append_left (show place9 C c<(leads9 C n).length from place_lt h1 hl)];exact place_get h1 hl
  ·obtain rfl:c=n:=by omega
   unfold place9;rw [List.getElem?_append_right (Nat.le_refl _),if_pos (by simpa using hl),Nat.sub_self]; rfl
theorem leads_mem {C:Nat->Nat} {n c:Nat}:c∈leads9 C n↔c<n/\C c=c:=by
 unfold leads9;rw [List.mem_filter,List.mem_range,beq_iff_eq]
theorem leading_classes (g:List Ty):Leading (classesOf g):=leading_iter g _
theorem merge_len (g:List Ty):(mergeG g).length=place9 (classesOf g) g.length:=by unfold mergeG place9; rw [List.length_map]
theorem merge_le (g:List Ty):(mergeG g).length<=g.length:=by
 unfold mergeG leads9;rw [List.length_map];have:=List.length_filter_le (fun i=>classesOf g i==i) (List.range g.length);rw [List.length_range] at this;exact this
theorem rel_same {g:List Ty} (hr:∀ i,i<g.length->rightB g (nth g i)=true) {i j:Nat} (hi:i<g.length) (hj:j<g.length) (h:classesOf g i=classesOf g j):relT (toM g) (nth g i)=relT (toM g) (nth g j):=by
 refine ty_ext (by rw [rel_agree]; exact same_agree h) ?_ (fun hs=>?_) (fun m hm=>?_) (fun m hm=>?_)
 ·rw [rel_refs,rel_refs];have hm:=same_refs hr hi hj h;unfold mineOf at hm;have:=congrArg (List.map fun r:Int=>(place9 (classesOf g) r.toNat:Int)) hm;rw [List.map_map,List.map_map] at this;exact this
 ·have h1:=right_noSuper (hr i hi) hs;have hk:(nth g i).kind=(nth g j).kind:=classes_kind h;have hs2:hasSuperB (nth g j).kind=false:=by rw [<- hk]; exact hs
  have h2:=right_noSuper (hr j hj) hs2;rw [rel_super,rel_super,hs2,show hasSuperB (nth g i).kind=false from hs,h1,h2]
 ·obtain ⟨y,hy,rfl⟩:=List.mem_map.1 (show m∈(nth g i).methods.map (relM (toM g)) from hm);show 0<=(if 0<=y.sig.result then ((toM g y.sig.result.toNat:Nat):Int) else y.sig.result)\/(if 0<=y.sig.result then ((toM g y.sig.result.toNat:Nat):Int) else y.sig.result)=-1
  rcases right_results (hr i hi) y hy with e | e
  ·left; rw [if_pos e.1]; omega
  ·right; rw [if_neg (by omega)]; exact e
 ·obtain ⟨y,hy,rfl⟩:=List.mem_map.1 (show m∈(nth g j).methods.map (relM (toM g)) from hm);show 0<=(if 0<=y.sig.result then ((toM g y.sig.result.toNat:Nat):Int) else y.sig.result)\/(if 0<=y.sig.result then ((toM g y.sig.result.toNat:Nat):Int) else y.sig.result)=-1
  rcases right_results (hr j hj) y hy with e | e
  ·left; rw [if_pos e.1]; omega
  ·right; rw [if_neg (by omega)]; exact e
theorem merge_morph {g:List Ty} (hr:∀ i,i<g.length->rightB g (nth g i)=true):Morph (toM g) g (mergeG g):=by
 have hC:=leading_classes g;refine ⟨fun i hi=>?_,fun j hj=>?_,fun i hi=>?_⟩
 ·rw [merge_len];exact place_lt (Nat.lt_of_le_of_lt (hC i).1 hi) (hC i).2
 ·have hj2:j<(leads9 (classesOf g) g.length).length:=by unfold mergeG at hj; rwa [List.length_map] at hj
  obtain ⟨c,hc⟩:∃ c,(leads9 (classesOf g) g.length)[j]? = some c:=⟨_,List.getElem?_eq_getElem hj2⟩;obtain ⟨h1,h2⟩:=leads_mem.1 (List.mem_of_getElem? hc);refine ⟨c,h1,?_⟩;unfold toM;rw [h2];have h3:=place_get h1 h2;have hnd:(leads9 (classesOf g) g.length).Nodup:=by unfold leads9; exact List.nodup_range.filter _
  have h4:place9 (classesOf g) c<(leads9 (classesOf g) g.length).length:=(List.getElem?_eq_some_iff.1 h3).1;have h5:(leads9 (classesOf g) g.length)[place9 (classesOf g) c]=(leads9 (classesOf g) g.length)[j]:=by
   rw [(List.getElem?_eq_some_iff.1 h3).2,(List.getElem?_eq_some_iff.1 hc).2]
  exact (List.getElem_inj hnd).1 h5
 ·have h1:classesOf g i<g.length:=Nat.lt_of_le_of_lt (hC i).1 hi;have h2:=place_get h1 (hC i).2;have h3:(mergeG g)[toM g i]? = some (relT (toM g) (nth g (classesOf g i))):=by
   unfold mergeG;rw [List.getElem?_map];show ((leads9 (classesOf g) g.length)[place9 (classesOf g) (classesOf g i)]?).map _=_
   rw [h2]; rfl
  rw [nth,List.getD_eq_getElem?_getD,h3];exact rel_same hr h1 hi (hC i).2
end
section
open Go.ChangeShapes Go.WideShapes Go.ChangeAt Go.RowKit Go.Proofs
section
variable {H:Type} {enc:TypeId × Value->H} {W:World}
theorem arg_ints {base:Nat} {v:Value} {d:DataW H} {p:List MemPlace} (hv:Value.okWide Tryz.prog W .any base 35 v) (h:DataW.Trod enc Tryz.prog W 0 (fun _=>true) true 35 v d p) (hf:Fits Tryz.prog 35 d):∃ a n c L,v=.slice a n c/\Ints W (.slice a n c) L:=by
 obtain ⟨a,n,c,rfl⟩:=okWide_slice Tryz.underlying35 hv;obtain ⟨m,hm⟩:=h;obtain ⟨v',g,he,hg⟩:=open_ints35 hm hf;change [Value.slice a n c]=[v'] at he;injection he with he _
 subst he;exact ⟨a,n,c,g,rfl,hg⟩
end
end
section
open Go.RowKit Go.Proofs Go.Shelf
def ownP (B:Nat) (v:Value) (j:Nat):Bool:=decide (B<=j)&&(v.ownBlock != some j)
def NewL {α:Type} (R:World->α->List Value->Prop) (e:TypeId) (sz:Nat) (w0 wr:World) (v:Value) (ys:List α):Prop :=
 Ext w0 wr/\OwnL (R (only wr (ownP w0.heap.size v))) e sz wr w0.heap.size v ys
theorem OwnL.weak {α:Type} {R R':α->List Value->Prop} {e:TypeId} {sz:Nat} {w:World} {base:Nat} {v:Value} {xs:List α} (hR:∀ x cs,R x cs->R' x cs) (h:OwnL R e sz w base v xs):OwnL R' e sz w base v xs:=by
 obtain ⟨css,h1,h2,h3,h4⟩:=h;exact ⟨css,h1,fun i x cs hx hc=>hR x cs (h2 i x cs hx hc),h3,h4⟩
section
variable {α:Type} {R:World->α->List Value->Prop} {e:TypeId} {sz:Nat} {w0 wr w2:World} {v v':Value} {ys:List α}
theorem NewL.nil (w:World):NewL R e sz w w (.slice none 0 0) ([]:List α):=⟨Ext.refl w,OwnL.nil w⟩
theorem NewL.mono (hle:∀ {w w':World} {x:α} {cs:List Value},CellLe w w'->R w x cs->R w' x cs) (h:NewL R e sz w0 wr v ys) (hE:Ext wr w2):NewL R e sz w0 w2 v ys :=
 ⟨h.1.trans hE,(own_later h.2 hE).weak fun x cs hx=>hle (hE.only _) hx⟩
theorem NewL.push (hle:∀ {w w':World} {x:α} {cs:List Value},CellLe w w'->R w x cs->R w' x cs) {y:α} {w3:World} (h:NewL R e sz w0 wr v ys) (hO:OwnL (R (only wr (ownP w0.heap.size v))) e sz w3 w0.heap.size v' (ys++[y])) (hg:wr.grownBy w3 v.ownBlock)
  (hat:v'.ownBlock=v.ownBlock\/v'.ownBlock=some wr.heap.size):NewL R e sz w0 w3 v' (ys++[y]):=by
 refine ⟨own_grown h.2 h.1 hg,hO.weak fun x cs hx=>hle (fun a u hc=>?_) hx⟩;obtain ⟨h1,h2⟩:=only_cell hc;have hlt:=cell_lt h1;unfold ownP at h2;simp only [Bool.and_eq_true,decide_eq_true_eq,bne_iff_ne,ne_eq] at h2;refine cell_only ?_ ((World.cell?_of_block (w:=wr) (w':=w3) (hg.block a.block hlt (fun e=>h2.2 e.symm))).trans h1);unfold ownP;simp only [Bool.and_eq_true,decide_eq_true_eq,bne_iff_ne,ne_eq];refine ⟨h2.1,fun e=>?_⟩;rcases hat with hat | hat
 ·exact h2.2 (by rw [<- hat]; exact e)
 ·rw [hat] at e;have:=Option.some.inj e;omega
theorem NewL.see (hle:∀ {w w':World} {x:α} {cs:List Value},CellLe w w'->R w x cs->R w' x cs) (h:NewL R e sz w0 wr v ys) {x:α} {cs:List Value} {w3:World} (hE:Ext wr w2) (hx:R (only w3 (fromB w2.heap.size)) x cs):R (only w3 (ownP w0.heap.size v)) x cs:=by
 refine hle (only_only fun j hj=>?_) hx;unfold fromB at hj;unfold ownP;simp only [Bool.and_eq_true,decide_eq_true_eq,bne_iff_ne,ne_eq] at hj ⊢;have h1:=h.1.size;have h2:=hE.size;refine ⟨by omega,fun e=>?_⟩;have:=(h.2.lt j e).2;omega
theorem NewL.fresh (hle:∀ {w w':World} {x:α} {cs:List Value},CellLe w w'->R w x cs->R w' x cs) (h:NewL R e sz w0 wr v ys) (hb:ys.length*(8*sz)<=maxBytes):SlW R sz (only wr (fromB w0.heap.size)) v ys:=by
 have h2:OwnL (R (only wr (fromB w0.heap.size))) e sz (only wr (fromB w0.heap.size)) w0.heap.size v ys:=by
  obtain ⟨css,h1,h2,h3,h4⟩:=h.2;refine ⟨css,h1,fun i x cs hx hc=>hle (only_only fun j hj=>?_) (h2 i x cs hx hc),h3,owns_only h4 fun j hj=>?_⟩
  ·unfold ownP at hj;unfold fromB;simp only [Bool.and_eq_true,decide_eq_true_eq] at hj ⊢;exact hj.1
  ·unfold fromB;simp only [decide_eq_true_eq];exact (h.2.lt j hj).1
 obtain ⟨a,c,hv,hl,hc,hx⟩:=h2.slw hb;exact ⟨a,c,hv,hl,hc,hx⟩
end
theorem info83:(Tryz.prog.info? 83).map (fun i=>(i.zero,i.size,i.bytes))=some (some (.agg #[.string ⟨#[]⟩,.int .i64 0]),2,24):=by kernel_rfl
theorem part_cells {w:World}:∀ y cs,IsPart w y cs->∀ u,u∈cs->u.oneCell'=true:=fun y cs h u hu=>by
 obtain ⟨rfl,_⟩:=h;simp only [List.mem_cons,List.not_mem_nil,or_false] at hu;rcases hu with rfl | rfl <;> rfl
theorem turned110 (F:FuncId) (hF:Enters Tryz.prog F) (cap:Array Value) (a:Option Addr) (n c:Nat) (xs:List Part) (f:Part->Part) (w:World) (hx:Parts w (.slice a n c) xs) (hn:n<=400) (hy:∀ p,p∈xs->(f p).name.size<=maxBytes/\-9223372036854775808<=(f p).type/\(f p).type<=9223372036854775807)
  (hf:∀ p w1,p∈xs->Ext w w1->Calls Tryz.prog F (#[.agg #[.string p.name,.int .i64 p.type]]++cap) w1 (fun e w2=>e=.returned (.agg #[.string (f p).name,.int .i64 (f p).type])/\Ext w1 w2)) :
  Calls Tryz.prog 110 #[.slice a n c,.func (.func F) #[] cap] w fun e w2=>∃ b m d,e=.returned (.slice b m d)/\NewL IsPart 83 2 w w2 (.slice b m d) (xs.map f):=by
 obtain rfl:=SlW.len hx;have Hf:=dh hf; clear hf;have Hx:=dh hx;have Hy:=dh hy;clear hx hy;obtain ⟨i0,hi,hz0,hz1,hz2⟩:=info_parts info83
 go_enter Tryz.func110,Tryz.ntmps110
 go_wp2;go_loopw [5,10] (fun v i wr=>∃ k:Nat,k<=xs.length/\i=.int .i64 k/\(∃ b m d,v=.slice b m d)/\Hid (NewL IsPart 83 2 w wr v ((xs.map f).take k))) (fun _ i _=>xs.length-(intOf i).toNat)
 case atStart=>exact ⟨0,Nat.zero_le _,rfl,⟨_,_,_,rfl⟩,dh (NewL.nil w)⟩
 case round =>
  obtain ⟨k,hk,rfl,⟨vb,vm,vd,rfl⟩,hN⟩:=hrel;by_cases hlt:k<xs.length
  ·have hEn:∀ (args:Array Value) (w:World),(callFunc F args).run Tryz.prog w=.ok (.enter F args) w:=hF;obtain ⟨b,off,ha,hlt2,d0,d1,-⟩:=Parts.at (Parts.mono hN.out.1 Hx.out) hlt;obtain ⟨x,hx⟩:∃ x,x=nth xs k:=⟨_,rfl⟩;rw [<- hx] at d0 d1;have hxm:x∈xs:=by rw [hx]; exact nth_mem hlt
   have Hs:=dh (show (xs.map f).take (k+1)=(xs.map f).take k++[f x] by rw [<- List.map_take,<- List.map_take,take_snoc hlt,hx,List.map_append]; rfl);clear hx;subst ha;go_wp2_with fail;refine (Hf.out x _ hxm (hN.out.1.trans (Ext.alloc _ _))).mono ?_;rintro e w2 ⟨rfl,hE2⟩;have HN:=dh (hN.out.mono (fun h=>id) ((Ext.alloc _ _).trans hE2));clear hE2 hN;have hO:=(HN.out.mono (fun h=>id) (Ext.alloc w2 (.cells #[.string (f x).name,.int .i64 (f x).type] 83)));have hone:SlW (fun _=>IsPart (only (w2.alloc (.cells #[.string (f x).name,.int .i64 (f x).type] 83)) (ownP w.heap.size (.slice vb vm vd)))) 2 (w2.alloc (.cells #[.string (f x).name,.int .i64 (f x).type] 83)) (.slice (some ⟨w2.heap.size,0,none⟩) 1 1) [f x] :=
    parts_one (heap_alloc_new _ _) (Hy.out x hxm)
   have hsz:=hO.1.size;go_wp2_with (at_builtin; refine wpList_append_list rfl (.tmp 14) (.tmp 18) 46 rfl w.heap.size 83 i0 (.agg #[.string ⟨#[]⟩,.int .i64 0]) 2 24 Tryz.underlying46 hi hz0 hz1 hz2 rfl (by decide) _ _ rfl hO.2 rfl hone part_cells ?c1 ?c2 ?c3 ?_)
   case c1=>unfold maxLen; simp; omega
   case c2=>simp; omega
   case c3=>exact hsz
   intro v' w3 hO3 hg3 hat3;have HN3:=dh (hO.push (fun h=>id) hO3 hg3 (by rw [World.size_alloc]; exact hat3));have hv':∃ b m d,v'=.slice b m d:=by
    obtain ⟨_,_,_,_,hrow⟩:=hO3;obtain ⟨x,y,e⟩:=owns_slice hrow;exact ⟨_,_,_,e⟩
   clear hO hone hO3 hg3 hat3 hsz;go_wp2;go_roundw
   case rel=>exact ⟨k+1,by omega,by go_num,hv',dh (by rw [Hs.out]; exact HN3.out)⟩
   case measure=>simp [intOf]; omega
  ·have:k=xs.length:=by omega
   subst this;rw [List.take_of_length_le (by simp)] at hN;go_wp2;go_ret;exact ⟨_,_,_,rfl,hN.out⟩
theorem info88:(Tryz.prog.info? 88).map (fun i=>(i.zero,i.size,i.bytes))=some (some (.agg #[.string ⟨#[]⟩,.slice none 0 0,.int .i64 0,.slice none 0 0,.string ⟨#[]⟩]),5,88):=by kernel_rfl
theorem meth_cells {w:World}:∀ y cs,IsMeth w y cs->∀ u,u∈cs->u.oneCell'=true:=fun y cs h u hu=>by
 obtain ⟨av,rv,rfl,h1,h2,_⟩:=h;obtain ⟨_,_,rfl,_⟩:=h1;obtain ⟨_,_,rfl,_⟩:=h2;simp only [List.mem_cons,List.not_mem_nil,or_false] at hu;rcases hu with rfl | rfl | rfl | rfl | rfl <;> rfl
theorem slw_one {α:Type} {R:α->List Value->Prop} {sz:Nat} {W:World} {b:Nat} {T:TypeId} {cs:List Value} {y:α} (h:W.heap[b]? = some (.cells cs.toArray T (0,0))) (hR:R y cs) (hl:cs.length=sz) (hb:8*sz<=maxBytes):SlW (fun _=>R) sz W (.slice (some ⟨b,0,none⟩) 1 1) [y]:=by
 refine ⟨_,1,rfl,Nat.le_refl _,by simpa using hb,fun i x hi=>?_⟩
 match i,hi with
 | 0,hi =>
  cases hi;refine ⟨b,0,cs,rfl,hR,hl,fun j u hu=>?_⟩;rw [show 0+0*sz+j=j by omega];exact row_cell h (by simpa using hu)
def MethPost (w1:World) (m:Meth) (e:Ending) (w2:World):Prop:=∃ ba bl bc ca cl cc,e=.returned (.agg #[.string m.name,.slice ba bl bc,.int .i64 m.sig.result,.slice ca cl cc,.string m.proc]) /\
 Ints (only w2 (fromB w1.heap.size)) (.slice ba bl bc) m.sig.args/\Strs (only w2 (fromB w1.heap.size)) (.slice ca cl cc) m.sig.raises/\Ext w1 w2
theorem turned112 (F:FuncId) (hF:Enters Tryz.prog F) (cap:Array Value) (a:Option Addr) (n c:Nat) (xs:List Meth) (f:Meth->Meth) (w:World) (hx:Meths w (.slice a n c) xs) (hn:n<=400)
  (hy:∀ p,p∈xs->-9223372036854775808<=(f p).sig.result/\(f p).sig.result<=9223372036854775807/\(f p).name.size<=maxBytes/\(f p).proc.size<=maxBytes)
  (hf:∀ p w1 (aa:Option Addr) (al ac:Nat) (ra:Option Addr) (rl rc:Nat),p∈xs->Ext w w1->Ints w1 (.slice aa al ac) p.sig.args->Strs w1 (.slice ra rl rc) p.sig.raises ->
   Calls Tryz.prog F (#[.agg #[.string p.name,.slice aa al ac,.int .i64 p.sig.result,.slice ra rl rc,.string p.proc]]++cap) w1 (MethPost w1 (f p))) :
  Calls Tryz.prog 112 #[.slice a n c,.func (.func F) #[] cap] w fun e w2=>∃ b m d,e=.returned (.slice b m d)/\NewL IsMeth 88 5 w w2 (.slice b m d) (xs.map f):=by
 obtain rfl:=SlW.len hx;have Hf:=dh hf; clear hf;have Hx:=dh hx;have Hy:=dh hy;clear hx hy;obtain ⟨i0,hi,hz0,hz1,hz2⟩:=info_parts info88
 go_enter Tryz.func112,Tryz.ntmps112
 go_wp2;go_loopw [5,10] (fun v i wr=>∃ k:Nat,k<=xs.length/\i=.int .i64 k/\(∃ b m d,v=.slice b m d)/\Hid (NewL IsMeth 88 5 w wr v ((xs.map f).take k))) (fun _ i _=>xs.length-(intOf i).toNat)
 case atStart=>exact ⟨0,Nat.zero_le _,rfl,⟨_,_,_,rfl⟩,dh (NewL.nil w)⟩
 case round =>
  obtain ⟨k,hk,rfl,⟨vb,vm,vd,rfl⟩,hN⟩:=hrel;by_cases hlt:k<xs.length
  ·have hEn:∀ (args:Array Value) (w:World),(callFunc F args).run Tryz.prog w=.ok (.enter F args) w:=hF;obtain ⟨b,off,aa,al,ac,ra,rl,rc,ha,hlt2,d0,d1,d2,d3,d4,hia,hsr,-⟩:=Meths.at (Meths.mono hN.out.1 Hx.out) hlt;obtain ⟨x,hx⟩:∃ x,x=nth xs k:=⟨_,rfl⟩;rw [<- hx] at d0 d2 d4 hia hsr;have hxm:x∈xs:=by rw [hx]; exact nth_mem hlt
   have Hs:=dh (show (xs.map f).take (k+1)=(xs.map f).take k++[f x] by rw [<- List.map_take,<- List.map_take,take_snoc hlt,hx,List.map_append]; rfl);have Hia:=dh (Ints.mono (Ext.alloc wr (.cells #[.string x.name,.slice aa al ac,.int .i64 x.sig.result,.slice ra rl rc,.string x.proc] 88)) hia);have Hsr:=dh (Strs.mono (Ext.alloc wr (.cells #[.string x.name,.slice aa al ac,.int .i64 x.sig.result,.slice ra rl rc,.string x.proc] 88)) hsr);clear hx hia hsr;subst ha;go_wp2_with fail;refine (Hf.out x _ aa al ac ra rl rc hxm (hN.out.1.trans (Ext.alloc _ _)) Hia.out Hsr.out).mono ?_;rintro e w2 ⟨ba,bl,bc,ca,cl,cc,rfl,hba,hca,hE2⟩;have hB:IsMeth (only w2 (ownP w.heap.size (.slice vb vm vd))) (f x) [.string (f x).name,.slice ba bl bc,.int .i64 (f x).sig.result,.slice ca cl cc,.string (f x).proc] :=
    NewL.see (R:=IsMeth) (fun h=>IsMeth.le h) hN.out (Ext.alloc _ _) ⟨_,_,rfl,hba,hca,Hy.out x hxm⟩
   have HB:=dh hB;have HN:=dh (NewL.mono (R:=IsMeth) (fun h=>IsMeth.le h) hN.out ((Ext.alloc _ _).trans hE2));clear hE2 hN hB hba hca Hia Hsr;have hO:=(NewL.mono (R:=IsMeth) (fun h=>IsMeth.le h) HN.out (Ext.alloc w2 (.cells #[.string (f x).name,.slice ba bl bc,.int .i64 (f x).sig.result,.slice ca cl cc,.string (f x).proc] 88)));have hone:SlW (fun _=>IsMeth (only (w2.alloc (.cells #[.string (f x).name,.slice ba bl bc,.int .i64 (f x).sig.result,.slice ca cl cc,.string (f x).proc] 88)) (ownP w.heap.size (.slice vb vm vd)))) 5 (w2.alloc (.cells #[.string (f x).name,.slice ba bl bc,.int .i64 (f x).sig.result,.slice ca cl cc,.string (f x).proc] 88)) (.slice (some ⟨w2.heap.size,0,none⟩) 1 1) [f x] :=
    slw_one (cs:=[.string (f x).name,.slice ba bl bc,.int .i64 (f x).sig.result,.slice ca cl cc,.string (f x).proc]) (heap_alloc_new _ _) (IsMeth.le ((Ext.alloc _ _).only _) HB.out) rfl (by unfold maxBytes; decide)
   have hsz:=hO.1.size;go_wp2_with (at_builtin; refine wpList_append_list rfl (.tmp 14) (.tmp 18) 47 rfl w.heap.size 88 i0 (.agg #[.string ⟨#[]⟩,.slice none 0 0,.int .i64 0,.slice none 0 0,.string ⟨#[]⟩]) 5 88 Tryz.underlying47 hi hz0 hz1 hz2 rfl (by decide) _ _ rfl hO.2 rfl hone meth_cells ?c1 ?c2 ?c3 ?_)
   case c1=>unfold maxLen; simp; omega
   case c2=>simp; omega
   case c3=>exact hsz
   intro v' w3 hO3 hg3 hat3;have HN3:=dh (NewL.push (R:=IsMeth) (fun h=>IsMeth.le h) hO hO3 hg3 (by rw [World.size_alloc]; exact hat3));have hv':∃ b m d,v'=.slice b m d:=by
    obtain ⟨_,_,_,_,hrow⟩:=hO3;obtain ⟨x,y,e⟩:=owns_slice hrow;exact ⟨_,_,_,e⟩
   clear hO hone hO3 hg3 hat3 hsz HB;go_wp2;go_roundw
   case rel=>exact ⟨k+1,by omega,by go_num,hv',dh (by rw [Hs.out]; exact HN3.out)⟩
   case measure=>simp [intOf]; omega
  ·have:k=xs.length:=by omega
   subst this;rw [List.take_of_length_le (by simp)] at hN;go_wp2;go_ret;exact ⟨_,_,_,rfl,hN.out⟩
end
section
open Go.RowKit Go.Proofs Go.Shelf
def HasRow (w:World) (b:Nat) (T:TypeId) (n:Nat):Prop:=∃ cur,w.heap[b]? = some (.cells cur T (0,0))/\n<=cur.size
theorem HasRow.ext {w w':World} {b:Nat} {T:TypeId} {n:Nat} (h:HasRow w b T n) (hE:Ext w w'):HasRow w' b T n:=by
 obtain ⟨cur,h1,h2⟩:=h;exact ⟨cur,(hE.block b (row_lt h1)).trans h1,h2⟩
theorem HasRow.set {w:World} {b:Nat} {T:TypeId} {n:Nat} (h:HasRow w b T n) (c j:Nat) (v:Value):HasRow (w.setCell ⟨c,j,none⟩ v) b T n:=by
 obtain ⟨cur,h1,h2⟩:=h;by_cases hc:b=c
 ·subst hc;exact ⟨_,row_set h1,by rw [Array.size_setIfInBounds]; exact h2⟩
 ·exact ⟨cur,(Below.heap_setCell _ _ _ _ hc).trans h1,h2⟩
theorem HasRow.cell {w:World} {b:Nat} {T:TypeId} {n:Nat} (h:HasRow w b T n) {j:Nat} (hj:j<n):∃ u,w.cell? ⟨b,j,none⟩=some u:=by
 obtain ⟨cur,h1,h2⟩:=h;exact ⟨_,row_cell h1 (Array.getElem?_eq_getElem (show j<cur.size by omega))⟩
theorem HasRow.free {w:World} {b:Nat} {T:TypeId} {n:Nat} (h:HasRow w b T n) (j:Nat):w.frozen? ⟨b,j,none⟩=false:=by
 obtain ⟨cur,h1,h2⟩:=h;exact row_free h1 j
theorem HasRow.lt {w:World} {b:Nat} {T:TypeId} {n:Nat} (h:HasRow w b T n):b<w.heap.size:=by
 obtain ⟨cur,h1,h2⟩:=h;exact row_lt h1
theorem slw_fix {α:Type} {R:World->α->List Value->Prop} {sz:Nat} {w w':World} {v:Value} {xs:List α} (h:SlW R sz w v xs) (hE:Ext w w'):SlW (fun _=>R w) sz w' v xs:=by
 obtain ⟨a,c,hv,hl,hc,hx⟩:=h;refine ⟨a,c,hv,hl,hc,fun i x hi=>?_⟩;obtain ⟨b,off,cs,ha,hr,hlen,hcell⟩:=hx i x hi;exact ⟨b,off,cs,ha,hr,hlen,fun j u hu=>hE.cell (hcell j u hu)⟩
theorem ty_cells {w:World}:∀ y cs,IsTy w y cs->∀ u,u∈cs->u.oneCell'=true:=fun y cs h u hu=>by
 obtain ⟨pv,mv,ov,rfl,h1,h2,h3,_⟩:=h;obtain ⟨_,_,rfl,_⟩:=h1;obtain ⟨_,_,rfl,_⟩:=h2;obtain ⟨_,_,rfl,_⟩:=h3;unfold tyCells at hu;simp only [List.mem_cons,List.not_mem_nil,or_false] at hu;rcases hu with rfl | rfl | rfl | rfl | rfl | rfl | rfl | rfl | rfl | rfl <;> rfl
structure RowsI (W wr:World) (x:Option Addr) (n:Nat) (y:Option Addr) (m:Nat):Prop where
 ext:Ext W wr
 bx:∀ r,x=some ⟨r,0,none⟩->W.heap.size<=r/\HasRow wr r 3 n
 bY:∀ r,y=some ⟨r,0,none⟩->W.heap.size<=r/\HasRow wr r 3 m
theorem RowsI.setx {W wr:World} {r n m:Nat} {y:Option Addr} (h:RowsI W wr (some ⟨r,0,none⟩) n y m) (j:Nat) (v:Value):RowsI W (wr.setCell ⟨r,j,none⟩ v) (some ⟨r,0,none⟩) n y m :=
 ⟨Below.setCell h.ext (h.bx r rfl).1 v,fun k e=>⟨(h.bx k e).1,(h.bx k e).2.set _ _ _⟩,fun k e=>⟨(h.bY k e).1,(h.bY k e).2.set _ _ _⟩⟩
end
end Go.Proofs.YtjffkeoajkhbmaaGreat
