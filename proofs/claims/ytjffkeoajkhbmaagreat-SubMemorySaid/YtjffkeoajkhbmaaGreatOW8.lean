/- The references of a type as a list; the class of a reference. Rows of numbers of one's own; what types.classes reckons. -/
import Derived.Test.YtjffkeoajkhbmaaGreatOW6
import Derived.Test.YtjffkeoajkhbmaaGreatOW7
namespace Go.Proofs.YtjffkeoajkhbmaaGreat
set_option linter.unusedSimpArgs false
set_option linter.unusedVariables false
set_option maxRecDepth 100000
set_option maxHeartbeats 8000000
section
open Go.RowKit Go.Proofs
theorem refs137 (a:Option Addr) (n c:Nat) (g:List Ty) (i:Nat) (w:World) (hg:Graph w (.slice a n c) g) (hi:i<n) :
  Calls Tryz.prog 137 #[.agg #[.slice a n c],.int .i64 i] w fun e w'=>∃ bx,e=.returned (.func (.func 165) #[] #[.pointer (some ⟨bx,0,none⟩)])/\Ext w w' /\
   ∃ pa pl pc ma ml mc ov,Box w' bx (nth g i) (.slice pa pl pc) (.slice ma ml mc) ov/\Parts w' (.slice pa pl pc) (nth g i).parts/\Meths w' (.slice ma ml mc) (nth g i).methods:=by
 have hb:=(SlW.bound hg).2;obtain rfl:=SlW.len hg;obtain ⟨xb,xo,pa,pl,pc,ma,ml,mc,oa,ol,oc,hxo,hxl,hx⟩:=Graph.at hg hi;subst hxo;obtain ⟨c0,c1,c2,c3,c4,c5,c6,c7,c8,c9,hps,hms,hos,hok⟩:=hx
 go_enter Tryz.func137,Tryz.ntmps137
 go_wp2;refine bodyPost_ret (v:=.func (.func 165) #[] #[.pointer (some ⟨w.heap.size+1,0,none⟩)]) (by simp [results,Tryz.results137,go_sem]) rfl ⟨_,rfl,(Ext.alloc _ _).trans (Ext.alloc _ _),pa,pl,pc,ma,ml,mc,.slice oa ol oc,heap_alloc2 _ _ _,Parts.mono ((Ext.alloc _ _).trans (Ext.alloc _ _)) hps,Meths.mono ((Ext.alloc _ _).trans (Ext.alloc _ _)) hms⟩
theorem enters165:Enters Tryz.prog 165:=enters_of Tryz.func165 (by kernel_rfl) rfl
theorem collect136 (lb:Array Value) (gf:Nat) (he:∀ args w,(callFunc gf args).run Tryz.prog w=.ok (.enter gf args) w) (xs:List Int) (hlen:xs.length<=100000) (w0 w:World) (hE0:Ext w0 w) (hseq:YieldsInts w0 gf lb xs w) :
  Calls Tryz.prog 136 #[.func (.func gf) #[] lb] w fun e w'=>∃ v,e=.returned v/\w'.ownsRow w.heap.size 3 1 v xs.length (xs.map (Value.int .i64))/\Ext w w':=by
 have Hc:=dh (appendSeq164 gf lb he xs hlen w0 w hE0 hseq);clear hseq he
 go_enter Tryz.func136,Tryz.ntmps136
 go_wp2_with fail;refine Hc.out.mono ?_;rintro e w1 ⟨v,rfl,hown,hE⟩;have Ho:=dh hown; clear hown;have HE:=dh hE; clear hE;go_wp2_with fail;go_ret;exact ⟨v,rfl,Ho.out,HE.out⟩
theorem refs_bound {w:World} {a b:Option Addr} {n c m d:Nat} {x:Ty} (hp:Parts w (.slice a n c) x.parts) (hm:Meths w (.slice b m d) x.methods) (ok:TyOk x) :
  ∀ y,y∈refsOf x->-9223372036854775808<=y/\y<=9223372036854775807:=by
 intro y hy;rw [refsOf_eq] at hy;simp only [List.mem_append,List.mem_flatten,List.mem_map] at hy;rcases hy with (hy | ⟨p,hpm,rfl⟩) | ⟨l,⟨me,hme,rfl⟩,hy⟩
 ·unfold supersOf at hy;split at hy
  ·rw [List.mem_singleton.1 hy]; exact ⟨ok.s0,ok.s1⟩
  ·cases hy
 ·obtain ⟨i,hi,rfl⟩:=List.getElem_of_mem hpm;rw [<- nth_eq hi];obtain ⟨_,_,_,_,_,_,_,h1,h2⟩:=Parts.at hp (show i<n by rw [SlW.len hp]; exact hi);exact ⟨h1,h2⟩
 ·obtain ⟨i,hi,rfl⟩:=List.getElem_of_mem hme;rw [<- nth_eq hi] at hy;obtain ⟨_,_,_,al,_,_,_,_,_,_,_,_,_,_,_,ha,_,h1,h2,_⟩:=Meths.at hm (show i<m by rw [SlW.len hm]; exact hi);unfold methRefs at hy;rcases List.mem_append.1 hy with hy | hy
  ·obtain ⟨k,hk,rfl⟩:=List.getElem_of_mem hy;rw [<- nth_eq hk];obtain ⟨_,_,_,_,_,h3,h4⟩:=Ints.at ha (show k<al by rw [SlW.len ha]; exact hk);exact ⟨h3,h4⟩
  ·split at hy
   ·rw [List.mem_singleton.1 hy]; exact ⟨h1,h2⟩
   ·cases hy
theorem parts_le {g:List Ty} {x:Ty} (h:rightB g x=true):x.parts.length<=8/\x.methods.length<=8/\∀ me,me∈x.methods->signedB g.length me.sig=true:=by
 unfold rightB at h;split at h
 ·simp [noParts,noRows] at h; simp [h]
 split at h
 ·simp only [Bool.and_eq_true,heldB,noRows,beq_iff_eq] at h;obtain ⟨⟨⟨⟨⟨_,h1⟩,_⟩,_⟩,_⟩,h2⟩:=h;have hm:=List.eq_nil_of_length_eq_zero h2.1;refine ⟨?_,by rw [hm]; simp,by rw [hm]; simp⟩
  match x.parts,h1 with
  | [p],_=>simp
 split at h
 ·simp only [Bool.and_eq_true,recordedB,differentB,noRows,beq_iff_eq,decide_eq_true_eq] at h;obtain ⟨⟨⟨⟨⟨_,h1⟩,_⟩,_⟩,_⟩,h2⟩:=h;have hm:=List.eq_nil_of_length_eq_zero h2.1;refine ⟨by simpa using h1.2,by rw [hm]; simp,by rw [hm]; simp⟩
 split at h
 ·simp only [Bool.and_eq_true,objectsB,objectB,differentB,decide_eq_true_eq,List.all_eq_true] at h;obtain ⟨⟨⟨⟨_,h1⟩,⟨⟨⟨⟨h3,_⟩,h2⟩,_⟩,_⟩⟩,_⟩,_⟩:=h;exact ⟨by simpa using h1.2,by simpa using h2.2,fun me hme=>(h3 me hme).1⟩
 split at h
 ·simp [noParts,noRows] at h; simp [h]
 split at h
 ·simp [noParts,noRows] at h; simp [h]
 ·cases h
theorem flatten_le {α:Type} (f:α->List Int) (b:Nat):∀ (xs:List α),(∀ x,x∈xs->(f x).length<=b)->(xs.map f).flatten.length<=xs.length*b
 | [],_=>by simp
 | x :: xs,h=>by
  have h1:=h x (List.mem_cons_self ..);have h2:=flatten_le f b xs (fun y hy=>h y (List.mem_cons_of_mem _ hy));simp only [List.map_cons,List.flatten_cons,List.length_append,List.length_cons];rw [Nat.succ_mul]; omega
theorem refs_len {g:List Ty} {x:Ty} (h:rightB g x=true):(refsOf x).length<=100:=by
 obtain ⟨h1,h2,h3⟩:=parts_le h;rw [refsOf_eq];have hf:=flatten_le methRefs 7 x.methods (fun me hme=>by
  have:=h3 me hme;simp only [signedB,Bool.and_eq_true,decide_eq_true_eq] at this;unfold methRefs;rw [List.length_append];split <;> simp <;> omega)
 have hs:(supersOf x).length<=1:=by unfold supersOf; split <;> simp
 simp only [List.length_append,List.length_map];omega
theorem hasI_iff {n:Nat} {i:Int}:hasI n i=true↔0<=i/\i<n:=by simp [hasI]
theorem parts_in {g:List Ty} {x:Ty} (h:rightB g x=true):∀ p,p∈x.parts->hasI g.length p.type=true:=by
 have hbr:brandedB g x=true->∀ p,p∈x.parts->hasI g.length p.type=true:=fun h=>by
  simp only [brandedB,Bool.and_eq_true,List.all_eq_true] at h;exact h.2
 have hno:noParts x=true->∀ p,p∈x.parts->hasI g.length p.type=true:=fun h p hp=>by
  simp only [noParts,beq_iff_eq] at h;rw [List.eq_nil_of_length_eq_zero h] at hp;cases hp
 unfold rightB at h;split at h
 ·simp only [Bool.and_eq_true] at h; exact hno h.1.2
 split at h
 ·simp only [Bool.and_eq_true,heldB] at h; exact hbr h.1.1.1.1.1
 split at h
 ·simp only [Bool.and_eq_true,recordedB] at h; exact hbr h.1.1.1.1.1.1
 split at h
 ·simp only [Bool.and_eq_true,objectsB] at h; exact hbr h.1.1.1.1
 split at h
 ·simp only [Bool.and_eq_true] at h; exact hno h.1.2
 split at h
 ·simp only [Bool.and_eq_true] at h; exact hno h.1.2
 ·cases h
theorem refs_in {g:List Ty} {x:Ty} (h:rightB g x=true):∀ y,y∈refsOf x->0<=y/\y<g.length:=by
 intro y hy;rw [refsOf_eq] at hy;simp only [List.mem_append,List.mem_flatten,List.mem_map] at hy;rcases hy with (hy | ⟨p,hpm,rfl⟩) | ⟨l,⟨me,hme,rfl⟩,hy⟩
 ·unfold supersOf at hy;split at hy
  ·rename_i hs
   rw [List.mem_singleton.1 hy]; exact right_super h hs
  ·cases hy
 ·exact hasI_iff.1 (parts_in h p hpm)
 ·have hs:=(parts_le h).2.2 me hme;simp only [signedB,Bool.and_eq_true,List.all_eq_true,Bool.or_eq_true,beq_iff_eq] at hs;unfold methRefs at hy;rcases List.mem_append.1 hy with hy | hy
  ·exact hasI_iff.1 (hs.1.2 y hy)
  ·split at hy
   ·rename_i h0
    rw [List.mem_singleton.1 hy];rcases hs.1.1.2 with h1 | h1
    ·omega
    ·exact hasI_iff.1 h1
   ·cases hy
theorem list102 (a:Option Addr) (n c:Nat) (g:List Ty) (i:Nat) (w:World) (hg:Graph w (.slice a n c) g) (hi:i<n) (hr:rightB g (nth g i)=true) :
  Calls Tryz.prog 102 #[.agg #[.slice a n c],.int .i64 i] w fun e w'=>∃ v,e=.returned v/\Ints w' v (refsOf (nth g i))/\Ext w w':=by
 have hlen:=refs_len hr;obtain rfl:=SlW.len hg;have hg1:=Graph.mono (Ext.alloc w (.cells #[.slice a g.length c] 118)) hg;have Hr:=dh (refs137 a _ c g i _ hg1 hi);have HT:=dh (Graph.at hg hi);clear hg1 hr
 go_enter Tryz.func102,Tryz.ntmps102
 go_wp2_with fail;refine Hr.out.mono ?_;rintro e w1 ⟨bx,rfl,hE,pa,pl,pc,ma,ml,mc,ov,hx,hp,hm⟩;have Hy:=dh (refs165 w1 w1 (Ext.refl _) bx _ pa pl pc ma ml mc ov hx hp hm);have Hb:=dh (refs_bound hp hm (by obtain ⟨_,_,_,_,_,_,_,_,_,_,_,_,_,hT⟩:=HT.out; exact hT.ok));have HE:=dh ((Ext.alloc _ _).trans hE); clear hE hx hp hm;go_wp2_with fail;refine (collect136 _ 165 enters165 _ (Nat.le_trans hlen (by decide)) _ _ (Ext.refl _) Hy.out).mono ?_;rintro e w2 ⟨v,rfl,hown,hE⟩;have Ho:=dh (owns_ints hown (by unfold maxBytes; omega) Hb.out); clear hown;have HE2:=dh (HE.out.trans hE); clear hE;go_wp2_with fail;go_ret;exact ⟨v,rfl,Ho.out,HE2.out⟩
theorem class103 (bc:Nat) (a:Option Addr) (n c:Nat) (cl:List Int) (i:Nat) (w:World) (hb:w.cell? ⟨bc,0,none⟩=some (.slice a n c)) (hc:Ints w (.slice a n c) cl) (hi:i<n) :
  Calls Tryz.prog 103 #[.int .i64 i,.pointer (some ⟨bc,0,none⟩)] w fun e w'=>e=.returned (.int .i64 (nth cl i))/\Ext w w':=by
 have hbd:=(SlW.bound hc).2;obtain ⟨xb,xo,rfl,hxl,c0,_⟩:=Ints.at hc hi
 go_enter Tryz.func103,Tryz.ntmps103
 go_wp2;go_ret;exact ⟨rfl,Ext.refl _⟩
theorem class105 (bc:Nat) (a:Option Addr) (n c:Nat) (cl:List Int) (i:Nat) (w:World) (hb:w.cell? ⟨bc,0,none⟩=some (.slice a n c)) (hc:Ints w (.slice a n c) cl) (hi:i<n) :
  Calls Tryz.prog 105 #[.int .i64 i,.pointer (some ⟨bc,0,none⟩)] w fun e w'=>e=.returned (.int .i64 (nth cl i))/\Ext w w':=by
 have hbd:=(SlW.bound hc).2;obtain ⟨xb,xo,rfl,hxl,c0,_⟩:=Ints.at hc hi
 go_enter Tryz.func105,Tryz.ntmps105
 go_wp2;go_ret;exact ⟨rfl,Ext.refl _⟩
theorem enters103:Enters Tryz.prog 103:=enters_of Tryz.func103 (by kernel_rfl) rfl
theorem enters105:Enters Tryz.prog 105:=enters_of Tryz.func105 (by kernel_rfl) rfl
end
section
open Go.RowKit Go.Proofs
def RowI (w:World) (r n:Nat) (F:Nat->Int):Prop:=w.heap[r]? = some (Obj.cells ((List.range n).map fun i=>Value.int .i64 (F i)).toArray 3 (0,0))
theorem RowI.lt {w:World} {r n:Nat} {F:Nat->Int} (h:RowI w r n F):r<w.heap.size:=(Array.getElem?_eq_some_iff.1 h).1
theorem RowI.cell {w:World} {r n:Nat} {F:Nat->Int} (h:RowI w r n F) {i:Nat} (hi:i<n):w.cell? ⟨r,i,none⟩=some (.int .i64 (F i)) :=
 cell_of_heap h (by simp [hi])
theorem RowI.free {w:World} {r n:Nat} {F:Nat->Int} (h:RowI w r n F) (i:Nat):w.frozen? ⟨r,i,none⟩=false:=by
 unfold World.frozen?;rw [show w.heap[(⟨r,i,none⟩:Addr).block]? = _ from h];simp
theorem RowI.congr {w:World} {r n:Nat} {F G:Nat->Int} (h:RowI w r n F) (hF:∀ i,i<n->F i=G i):RowI w r n G:=by
 unfold RowI at h ⊢;rw [h]
 congr 3
 apply List.map_congr_left;intro i hi;rw [hF i (List.mem_range.1 hi)]
theorem RowI.ext {w w':World} {r n:Nat} {F:Nat->Int} (h:RowI w r n F) (hE:Ext w w'):RowI w' r n F:=(hE.block r h.lt).trans h
theorem RowI.kept {w w':World} {r n:Nat} {F:Nat->Int} {b:Option Nat} (h:RowI w r n F) (hg:w.grownBy w' b) (hn:b≠some r):RowI w' r n F:=(hg.block r h.lt (fun e=>hn e.symm)).trans h
theorem RowI.set {w:World} {r n:Nat} {F:Nat->Int} (h:RowI w r n F) (i:Nat) (v:Int):RowI (w.setCell ⟨r,i,none⟩ (.int .i64 v)) r n (fun j=>if j=i then v else F j):=by
 unfold RowI World.setCell;simp only [Array.getElem?_modify,if_true];rw [show w.heap[r]? = _ from h];simp only [Option.map_some,Option.isSome_none,Bool.false_eq_true,if_false]
 congr 2
 refine Array.ext_getElem? fun k=>?_;rw [Array.getElem?_setIfInBounds];by_cases hk:i=k
 ·subst hk;by_cases hi:i<n <;> simp [hi]
 ·rw [if_neg hk];by_cases hi:k<n <;> simp [hi,Ne.symm hk]
theorem RowI.make (w:World) (n:Nat):RowI (w.alloc (.cells (madeCells #[.int .i64 0] n) 3)) w.heap.size n (fun _=>0):=by
 unfold RowI;rw [heap_alloc_new]
 congr 2
 apply Array.ext
 ·simp [size_madeCells]
 ·intro k h1 h2;simp [madeCells,Nat.mod_one]
theorem RowI.ints {w:World} {r n:Nat} {F:Nat->Int} (h:RowI w r n F) (hn:n*8<=maxBytes) (hb:∀ i,i<n->-9223372036854775808<=F i/\F i<=9223372036854775807) :
  Ints w (.slice (some ⟨r,0,none⟩) n n) ((List.range n).map F) :=
 ⟨some ⟨r,0,none⟩,n,by simp,by simp,by simpa using hn,fun i x hi=>by
  have hl:i<n:=by have:=(List.getElem?_eq_some_iff.1 hi).1; simpa using this
  have hx:x=F i:=by simpa [hl] using hi.symm
  subst hx;exact ⟨r,0,_,rfl,⟨rfl,hb i hl⟩,rfl,fun j u hu=>by
   match j,hu with
   | 0,hu=>simp at hu; subst hu; simpa using h.cell hl⟩⟩
theorem makeInts (n:Nat) (hn:n*8<=140737488351232) (w:World):(Instr.makeSlice 35 (.int .i64 n) (.int .i64 n)).run Tryz.prog w=.ok (.slice (some ⟨w.heap.size,0,none⟩) n n) (w.alloc (.cells (madeCells #[.int .i64 0] n) 3)):=by
 obtain ⟨i0,hi,hz0,hz1,hz2⟩:=info_parts info3;have:=run_make (P:=Tryz.prog) w 35 3 i0 (.int .i64 0) Tryz.underlying35 hi hz0 .i64 .i64 n n (by omega) (Int.le_refl _) (by rw [hz2]; omega) (by omega);rw [this,hz1];simp [Value.cells]
def mineOf (g:List Ty) (C:Nat->Nat) (i:Nat):List Int:=(refsOf (nth g i)).map fun r=>(C r.toNat:Int)
def stepQ (g:List Ty) (C:Nat->Nat) (i k:Nat):Bool:=sameB (fun (x y:Int)=>x==y) (mineOf g C i) (mineOf g C k)
def classStep (g:List Ty) (C:Nat->Nat):Nat->Nat:=parted C (stepQ g C)
def class0 (g:List Ty):Nat->Nat:=leadF fun i k=>agreeB (nth g i) (nth g k)
def classIter (g:List Ty):Nat->Nat->Nat
 | 0=>class0 g
 | m+1=>classStep g (classIter g m)
def isFix (g:List Ty) (m:Nat):Bool:=(List.range g.length).all fun i=>classIter g (m+1) i==classIter g m i
def classesOf (g:List Ty):Nat->Nat:=classIter g (((List.range (g.length+1)).find? (isFix g)).getD g.length)
theorem leading_iter (g:List Ty):∀ m,Leading (classIter g m)
 | 0=>leading_leadF _
 | m+1=>leading_leadF _
theorem iter_grows {g:List Ty} {m:Nat} (h:isFix g m=false):leaders g.length (classIter g m)<leaders g.length (classIter g (m+1)):=by
 unfold isFix at h;rw [List.all_eq_false] at h;obtain ⟨i,hi,h1⟩:=h;have h2:¬ classIter g (m+1) i=classIter g m i:=by simpa using h1
 exact leaders_lt (leading_iter g m) _ (List.mem_range.1 hi) h2
theorem classesOf_eq {g:List Ty} {m:Nat} (hm:m<=g.length) (h1:isFix g m=true) (h2:∀ j,j<m->isFix g j=false):classesOf g=classIter g m:=by
 have:(List.range (g.length+1)).find? (isFix g)=some m:=by
  rw [List.find?_range_eq_some];exact ⟨h1,by simp; omega,fun j hj=>by simp [h2 j hj]⟩
 rw [classesOf,this]; rfl
end
end Go.Proofs.YtjffkeoajkhbmaaGreat
