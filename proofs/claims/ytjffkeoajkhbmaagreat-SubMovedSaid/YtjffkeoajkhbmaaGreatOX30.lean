/- The law's example: its graph. Words lie below words alone; types that are equal are the same; what lies below stays below with more revelations. Rings, agreement and classes as the reference reckons them, in plain Lean. Graphs whose types stand elsewhere, or once: what is right stays so, and what is the same stays the same. Plain Lean. The reference's Check of a graph, and its checked. The reference's classes. The reference's Classes, and its Check of an environment. -/
import Derived.Test.YtjffkeoajkhbmaaGreatOX6
import Derived.Test.YtjffkeoajkhbmaaGreatOX9
import Derived.Test.YtjffkeoajkhbmaaGreatOX10
import Derived.Test.YtjffkeoajkhbmaaGreatOX24
import Derived.Test.YtjffkeoajkhbmaaGreatOX25
import Derived.Test.YtjffkeoajkhbmaaGreatOX27
import Derived.Test.YtjffkeoajkhbmaaGreatOX29
namespace Go.Proofs.YtjffkeoajkhbmaaGreat
set_option linter.unusedSimpArgs false
set_option linter.unusedVariables false
set_option maxRecDepth 100000
set_option maxHeartbeats 8000000
section
open Go.RowKit Go.Proofs Go.Shelf
def tyG (k lo hi:Int) (br:Bool) (brand opq:BA) (sup:Int) (ps:List Part):Ty:=⟨k,lo,hi,br,brand,opq,sup,ps,[],[]⟩
def graphG:List Ty:=[tyG 1 0 0 false ⟨#[]⟩ ⟨#[]⟩ 0 [],tyG 3 0 9 false ⟨#[]⟩ ⟨#[]⟩ 0 [],tyG 3 5 20 false ⟨#[]⟩ ⟨#[]⟩ 0 [],tyG 4 0 0 false ⟨#[]⟩ ⟨#[]⟩ 0 [],tyG 6 0 0 false ⟨#[]⟩ ⟨#[]⟩ 0 [],
 tyG 13 0 0 false ⟨#[]⟩ ⟨#[73,46,84]⟩ 4 [],tyG 12 0 0 true ⟨#[98]⟩ ⟨#[]⟩ 4 [⟨⟨#[110]⟩,0⟩],tyG 12 0 0 false ⟨#[]⟩ ⟨#[]⟩ 5 [⟨⟨#[109]⟩,1⟩],tyG 5 0 0 false ⟨#[]⟩ ⟨#[]⟩ 0 [],tyG 9 0 0 false ⟨#[]⟩ ⟨#[]⟩ 0 [⟨⟨#[]⟩,0⟩],tyG 3 3 4 false ⟨#[]⟩ ⟨#[]⟩ 0 []]
def partG (n:Nat) (i:Nat):Value:=match i with
 | 6=>.slice (some ⟨n,0,none⟩) 1 1
 | 7=>.slice (some ⟨n+1,0,none⟩) 1 1
 | 9=>.slice (some ⟨n+1+1,0,none⟩) 1 1
 | _=>.slice none 0 0
def cellsG (n i:Nat):List Value:=tyCells (nth graphG i) (partG n i) (.slice none 0 0) (.slice none 0 0)
theorem parts_one {W:World} {b:Nat} {p:Part} (h:W.heap[b]? = some (.cells #[.string p.name,.int .i64 p.type] 83 (0,0))) (hp:p.name.size<=maxBytes/\-9223372036854775808<=p.type/\p.type<=9223372036854775807):Parts W (.slice (some ⟨b,0,none⟩) 1 1) [p]:=by
 refine ⟨_,1,rfl,by simp,by simp [maxBytes],fun i x hx=>?_⟩
 match i,hx with
 | 0,hx =>
  simp at hx;subst hx;refine ⟨b,0,[.string p.name,.int .i64 p.type],rfl,⟨rfl,hp⟩,rfl,fun j u hj=>?_⟩;rw [show 0+0*2+j=j by omega];exact row_cell h (by simpa using hj)
theorem graph44 (w:World):Calls Tryz.prog 44 #[] w fun e w'=>∃ a,e=.returned (.slice (some a) 11 11)/\Ext w w'/\Graph w' (.slice (some a) 11 11) graphG:=by
 go_enter Tryz.func44,Tryz.ntmps44
 go_wp2;go_ret;refine ⟨⟨w.heap.size+1+1+1,0,none⟩,rfl,((((Ext.alloc _ _).trans (Ext.alloc _ _)).trans (Ext.alloc _ _)).trans (Ext.alloc _ _)),?_⟩;obtain ⟨A,hA⟩:∃ A:World,A=w.alloc (.cells #[.string ⟨#[110]⟩,.int .i64 0] 83):=⟨_,rfl⟩;obtain ⟨B,hB⟩:∃ B:World,B=A.alloc (.cells #[.string ⟨#[109]⟩,.int .i64 1] 83):=⟨_,rfl⟩;obtain ⟨C,hC⟩:∃ C:World,C=B.alloc (.cells #[.string ⟨#[]⟩,.int .i64 0] 83):=⟨_,rfl⟩;obtain ⟨D,hD⟩:∃ D:World,D=C.alloc (.cells (((List.range 11).map (cellsG w.heap.size)).flatten).toArray 50):=⟨_,rfl⟩;have a1:A.heap[w.heap.size]? = some (.cells #[.string ⟨#[110]⟩,.int .i64 0] 83 (0,0)):=by rw [hA]; exact heap_alloc_new _ _
 have a2:B.heap[w.heap.size+1]? = some (.cells #[.string ⟨#[109]⟩,.int .i64 1] 83 (0,0)):=by
  rw [hB];have:=heap_alloc_new A (.cells #[.string ⟨#[109]⟩,.int .i64 1] 83)
  rwa [show A.heap.size=w.heap.size+1 by rw [hA,World.size_alloc]] at this
 have a3:C.heap[w.heap.size+1+1]? = some (.cells #[.string ⟨#[]⟩,.int .i64 0] 83 (0,0)):=by
  rw [hC];have:=heap_alloc_new B (.cells #[.string ⟨#[]⟩,.int .i64 0] 83)
  rwa [show B.heap.size=w.heap.size+1+1 by rw [hB,World.size_alloc,hA,World.size_alloc]] at this
 have a4:D.heap[w.heap.size+1+1+1]? = some (.cells (((List.range 11).map (cellsG w.heap.size)).flatten).toArray 50 (0,0)):=by
  rw [hD];have:=heap_alloc_new C (.cells (((List.range 11).map (cellsG w.heap.size)).flatten).toArray 50)
  rwa [show C.heap.size=w.heap.size+1+1+1 by rw [hC,World.size_alloc,hB,World.size_alloc,hA,World.size_alloc]] at this
 have eAB:Ext A B:=by rw [hB]; exact Ext.alloc _ _
 have eBC:Ext B C:=by rw [hC]; exact Ext.alloc _ _
 have eCD:Ext C D:=by rw [hD]; exact Ext.alloc _ _
 have p1:Parts D (.slice (some ⟨w.heap.size,0,none⟩) 1 1) [⟨⟨#[110]⟩,0⟩]:=Parts.mono ((eAB.trans eBC).trans eCD) (parts_one (p:=⟨⟨#[110]⟩,0⟩) a1 (by decide));have p2:Parts D (.slice (some ⟨w.heap.size+1,0,none⟩) 1 1) [⟨⟨#[109]⟩,1⟩]:=Parts.mono (eBC.trans eCD) (parts_one (p:=⟨⟨#[109]⟩,1⟩) a2 (by decide));have p3:Parts D (.slice (some ⟨w.heap.size+1+1,0,none⟩) 1 1) [⟨⟨#[]⟩,0⟩]:=Parts.mono eCD (parts_one (p:=⟨⟨#[]⟩,0⟩) a3 (by decide));have p0:Parts D (.slice none 0 0) []:=⟨none,0,rfl,by simp,by simp,fun i x hx=>by simp at hx⟩;have m0:Meths D (.slice none 0 0) []:=⟨none,0,rfl,by simp,by simp,fun i x hx=>by simp at hx⟩;have o0:Overs D (.slice none 0 0) []:=⟨none,0,rfl,by simp,by simp,fun i x hx=>by simp at hx⟩
 suffices h:Graph D (.slice (some ⟨w.heap.size+1+1+1,0,none⟩) 11 11) graphG by
  rw [hD,hC,hB,hA] at h;exact h
 have hfl:=flat_get (cellsG w.heap.size) 10 11 (fun i _=>rfl);refine ⟨_,11,rfl,by decide,by decide,fun i x hx=>?_⟩;have hi:i<11:=by have:=(List.getElem?_eq_some_iff.1 hx).1; simpa [graphG] using this
 have hxe:x=nth graphG i:=by rw [nth_eq (by simpa [graphG] using hi)]; exact (List.getElem?_eq_some_iff.1 hx).2.symm
 refine ⟨w.heap.size+1+1+1,0,cellsG w.heap.size i,rfl,⟨partG w.heap.size i,_,_,by rw [hxe]; rfl,?_,?_,?_,?_⟩,rfl,fun j u hj=>?_⟩;rotate_left 4
 ·have hj10:j<10:=by have:=(List.getElem?_eq_some_iff.1 hj).1; simpa [cellsG,tyCells] using this
  rw [Nat.zero_add];exact row_cell a4 (by rw [List.getElem?_toArray,hfl i j hi hj10]; exact hj)
 all_goals subst hxe
 all_goals rcases (show i=0\/i=1\/i=2\/i=3\/i=4\/i=5\/i=6\/i=7\/i=8\/i=9\/i=10 by omega) with rfl | rfl | rfl | rfl | rfl | rfl | rfl | rfl | rfl | rfl | rfl
 all_goals first | exact p0 | exact p1 | exact p2 | exact p3 | exact m0 | exact o0 | (constructor <;> decide)
end
section
open Go.RowKit Go.Proofs
theorem sameB_refl {α:Type} {eq:α->α->Bool} (h:∀ x,eq x x=true):∀ l,sameB eq l l=true
 | []=>rfl
 | x :: l=>by simp only [sameB,h x,sameB_refl h l,Bool.and_self]
theorem agreeB_refl (x:Ty):agreeB x x=true:=by
 unfold agreeB plainEq;rw [sameB_refl (fun p=>by unfold partEq; simp),sameB_refl (fun m=>by unfold methEq; simp [sameB_refl (fun (a:BA)=>by simp:∀ a:BA,(a==a)=true)]),sameB_refl (fun o=>by unfold overEq; simp)];simp
theorem iter_kind {g:List Ty} {i j:Nat}:∀ m,classIter g m i=classIter g m j->(nth g i).kind=(nth g j).kind
 | 0,h=>by
  have key:∀ i,(nth g i).kind=(nth g (class0 g i)).kind:=fun i=>by
   rcases leadF_with (fun i k=>agreeB (nth g i) (nth g k)) i with h | h
   ·show _=(nth g (leadF (fun i k=>agreeB (nth g i) (nth g k)) i)).kind
    rw [h]
   ·unfold agreeB plainEq at h;simp only [Bool.and_eq_true,beq_iff_eq] at h;exact h.1.1.1.1.1.1.1.1
  rw [key i,key j];exact congrArg (fun k=>(nth g k).kind) h
 | m+1,h=>by
  refine iter_kind m ?_;have h1:=parted_le (C:=classIter g m) (stepQ g (classIter g m)) i;have h2:=parted_le (C:=classIter g m) (stepQ g (classIter g m)) j;rw [<- h1,<- h2];exact congrArg (classIter g m) h
theorem classes_kind {g:List Ty} {i j:Nat} (h:classesOf g i=classesOf g j):(nth g i).kind=(nth g j).kind:=iter_kind _ h
theorem step_lies {g:List Ty} {rs:List Reveal} {x:Nat} {s:Stp} (hs:StepOk g (classesOf g) rs x s):Lies g rs x s.to_:=Reach.one (List.mem_map.2 ⟨s,mem_steps.2 hs,rfl⟩)
theorem same_lies {g:List Ty} {rs:List Reveal} {a b:Nat} (hb:b<g.length) (h:classesOf g a=classesOf g b):Lies g rs a b:=step_lies (s:=⟨1,b,0⟩) (Or.inl ⟨rfl,rfl,hb,h.symm⟩)
end
section
open Go.RowKit Go.Proofs
theorem least_of {P:Nat->Prop} {k:Nat} (h:P k):∃ k,P k/\∀ j,j<k->¬ P j:=by
 induction k using Nat.strongRecOn with
 | ind k ih =>
  by_cases hj:∃ j,j<k/\P j
  ·obtain ⟨j,hj,hp⟩:=hj;exact ih j hj hp
  ·exact ⟨k,h,fun j hj' hp=>hj ⟨j,hj',hp⟩⟩
def itO (g:List Ty):Nat->Nat->Option Nat
 | 0,a=>some a
 | k+1,a=>if hasSuperB (nth g a).kind then itO g k (nth g a).super.toNat else none
theorem itO_add (g:List Ty):∀ (a b x:Nat),itO g (a+b) x=(itO g a x).bind (itO g b)
 | 0,b,x=>by rw [Nat.zero_add]; rfl
 | a+1,b,x=>by
  rw [show a+1+b=(a+b)+1 by omega];simp only [itO];split
  ·exact itO_add g a b _
  ·rfl
theorem ring_iff {g:List Ty} {i:Nat}:∀ (m a:Nat),ringB g i m a=true↔∃ k,1<=k/\k<=m/\itO g k a=some i
 | 0,a=>by
  simp only [ringB];exact ⟨fun h=>(by cases h),fun ⟨k,h1,h2,_⟩=>by omega⟩
 | m+1,a=>by
  simp only [ringB];cases hs:hasSuperB (nth g a).kind
  ·simp only [Bool.false_eq_true,if_false,false_iff];rintro ⟨k,h1,h2,h3⟩;obtain ⟨k,rfl⟩:∃ k',k=k'+1:=⟨k-1,by omega⟩;simp only [itO,hs,Bool.false_eq_true,if_false] at h3;cases h3
  ·simp only [if_true];by_cases he:(nth g a).super.toNat=i
   ·rw [if_pos he];refine ⟨fun _=>⟨1,Nat.le_refl _,by omega,?_⟩,fun _=>rfl⟩;simp only [itO,hs,if_true,he]
   ·rw [if_neg he,ring_iff m];constructor
    ·rintro ⟨k,h1,h2,h3⟩;refine ⟨k+1,by omega,by omega,?_⟩;simp only [itO,hs,if_true];exact h3
    ·rintro ⟨k,h1,h2,h3⟩;obtain ⟨k,rfl⟩:∃ k',k=k'+1:=⟨k-1,by omega⟩;simp only [itO,hs,if_true] at h3;refine ⟨k,?_,by omega,h3⟩;rcases Nat.eq_zero_or_pos k with h0 | h0
     ·subst h0;simp only [itO] at h3;exact absurd (Option.some.inj h3) he
     ·exact h0
theorem itO_lt {g:List Ty} (hr:∀ i,i<g.length->rightB g (nth g i)=true):∀ (k a b:Nat),a<g.length->itO g k a=some b->b<g.length
 | 0,a,b,ha,h=>by simp only [itO] at h; cases h; exact ha
 | k+1,a,b,ha,h=>by
  simp only [itO] at h;split at h
  ·rename_i hs
   have:=right_super (hr a ha) hs;exact itO_lt hr k _ b (by omega) h
  ·cases h
theorem sameB_symm {α:Type} {eq:α->α->Bool} (h:∀ x y,eq x y=eq y x):∀ xs ys,sameB eq xs ys=sameB eq ys xs
 | [],[]=>rfl
 | x :: xs,y :: ys=>by simp only [sameB,h x y,sameB_symm h xs ys]
 | [],_ :: _=>rfl
 | _ :: _,[]=>rfl
theorem sameB_trans {α:Type} {eq:α->α->Bool} (h:∀ x y z,eq x y=true->eq y z=true->eq x z=true):∀ xs ys zs,sameB eq xs ys=true->sameB eq ys zs=true->sameB eq xs zs=true
 | [],[],[],_,_=>rfl
 | x :: xs,y :: ys,z :: zs,h1,h2=>by
  simp only [sameB,Bool.and_eq_true] at h1 h2 ⊢;exact ⟨h x y z h1.1 h2.1,sameB_trans h xs ys zs h1.2 h2.2⟩
 | [],[],_ :: _,_,h=>by simp [sameB] at h
 | _ :: _,_ :: _,[],_,h=>by simp [sameB] at h
 | [],_ :: _,_,h,_=>by simp [sameB] at h
 | _ :: _,[],_,h,_=>by simp [sameB] at h
theorem meth_symm (x y:Meth):methEq x y=methEq y x:=by
 unfold methEq;rw [sameB_symm (fun a b=>by rw [Bool.eq_iff_iff,beq_iff_eq,beq_iff_eq]; exact eq_comm),Bool.eq_iff_iff];simp only [Bool.and_eq_true,beq_iff_eq];rw [eq_comm (a:=x.name),eq_comm (a:=x.proc),eq_comm (a:=x.sig.args.length),eq_comm (a:=decide (x.sig.result<0))]
theorem part_symm (a b:Part):partEq a b=partEq b a:=by unfold partEq; rw [Bool.eq_iff_iff,beq_iff_eq,beq_iff_eq]; exact eq_comm
theorem over_symm (a b:Over):overEq a b=overEq b a:=by
 unfold overEq;rw [Bool.eq_iff_iff];simp only [Bool.and_eq_true,beq_iff_eq];exact ⟨fun h=>⟨h.1.symm,h.2.symm⟩,fun h=>⟨h.1.symm,h.2.symm⟩⟩
theorem agree_symm (x y:Ty):agreeB x y=agreeB y x:=by
 unfold agreeB plainEq;rw [sameB_symm part_symm x.parts y.parts,sameB_symm meth_symm x.methods y.methods,sameB_symm over_symm x.overs y.overs];rw [Bool.eq_iff_iff];simp only [Bool.and_eq_true,beq_iff_eq];rw [eq_comm (a:=x.kind),eq_comm (a:=x.low),eq_comm (a:=x.high),eq_comm (a:=x.branded),eq_comm (a:=x.brand),eq_comm (a:=x.opq)]
theorem meth_trans (x y z:Meth) (h1:methEq x y=true) (h2:methEq y z=true):methEq x z=true:=by
 unfold methEq at *;simp only [Bool.and_eq_true,beq_iff_eq] at *;exact ⟨⟨⟨⟨h1.1.1.1.1.trans h2.1.1.1.1,h1.1.1.1.2.trans h2.1.1.1.2⟩,h1.1.1.2.trans h2.1.1.2⟩,h1.1.2.trans h2.1.2⟩,sameB_trans (fun a b c h1 h2=>by rw [beq_iff_eq] at *; exact h1.trans h2) _ _ _ h1.2 h2.2⟩
theorem agree_trans (x y z:Ty) (h1:agreeB x y=true) (h2:agreeB y z=true):agreeB x z=true:=by
 unfold agreeB plainEq at *;simp only [Bool.and_eq_true,beq_iff_eq] at *;refine ⟨⟨⟨⟨⟨⟨⟨⟨h1.1.1.1.1.1.1.1.1.trans h2.1.1.1.1.1.1.1.1,h1.1.1.1.1.1.1.1.2.trans h2.1.1.1.1.1.1.1.2⟩,h1.1.1.1.1.1.1.2.trans h2.1.1.1.1.1.1.2⟩,h1.1.1.1.1.1.2.trans h2.1.1.1.1.1.2⟩,h1.1.1.1.1.2.trans h2.1.1.1.1.2⟩,h1.1.1.1.2.trans h2.1.1.1.2⟩,?_⟩,?_⟩,?_⟩
 ·exact sameB_trans (fun a b c h1 h2=>by unfold partEq at *; rw [beq_iff_eq] at *; exact h1.trans h2) _ _ _ h1.1.1.2 h2.1.1.2
 ·exact sameB_trans meth_trans _ _ _ h1.1.2 h2.1.2
 ·exact sameB_trans (fun a b c h1 h2=>by unfold overEq at *; simp only [Bool.and_eq_true,beq_iff_eq] at *; exact ⟨h1.1.trans h2.1,h1.2.trans h2.2⟩) _ _ _ h1.2 h2.2
theorem leadF_congr {n:Nat} {q q':Nat->Nat->Bool} (h:∀ i,i<n->∀ k,k<i->q i k=q' i k):∀ i,i<n->leadF q i=leadF q' i:=by
 intro i
 induction i using Nat.strongRecOn with
 | ind i ih =>
  intro hi;rw [leadF_eq,leadF_eq];exact lead_congr (fun j hj=>by rw [ih j hj (by omega),h i hi j hj])
theorem step_congr {g:List Ty} (hr:∀ i,i<g.length->rightB g (nth g i)=true) {C D:Nat->Nat} (h:∀ j,j<g.length->C j=D j):∀ i,i<g.length->classStep g C i=classStep g D i:=by
 have hm:∀ i,i<g.length->mineOf g C i=mineOf g D i:=fun i hi=>by
  unfold mineOf;refine List.map_congr_left (fun r hr2=>?_);have:=refs_in (hr i hi) r hr2;rw [h _ (by omega)]
 refine leadF_congr (fun i hi k hk=>?_);show (C k==C i&&stepQ g C i k)=(D k==D i&&stepQ g D i k)
 unfold stepQ;rw [h k (by omega),h i hi,hm i hi,hm k (by omega)]
theorem iter_rest {g:List Ty} (hr:∀ i,i<g.length->rightB g (nth g i)=true) {m:Nat} (hf:isFix g m=true):∀ d i,i<g.length->classIter g (m+d) i=classIter g m i
 | 0,_,_=>rfl
 | d+1,i,hi=>by
  have h1:classIter g (m+1) i=classIter g m i:=by
   unfold isFix at hf;rw [List.all_eq_true] at hf
   simpa using hf i (List.mem_range.2 hi)
  rw [<- h1];exact step_congr hr (fun j hj=>iter_rest hr hf d j hj) i hi
theorem fix_some (g:List Ty):∃ m,m<=g.length/\isFix g m=true/\∀ j,j<m->isFix g j=false:=by
 by_cases h:∃ m,m<=g.length/\isFix g m=true
 ·obtain ⟨m,hm,h1⟩:=h;obtain ⟨k,⟨k1,k2⟩,hl⟩:=least_of (P:=fun m=>m<=g.length/\isFix g m=true) ⟨hm,h1⟩;refine ⟨k,k1,k2,fun j hj=>?_⟩;cases hb:isFix g j with
  | false=>rfl
  | true=>exact absurd ⟨by omega,hb⟩ (hl j hj)
 ·have hno:∀ j,j<=g.length->isFix g j=false:=fun j hj=>by
   cases hb:isFix g j with
   | false=>rfl
   | true=>exact absurd ⟨j,hj,hb⟩ h
  have:∀ j,j<=g.length+1->j<=leaders g.length (classIter g j):=by
   intro j
   induction j with
   | zero=>intro _; exact Nat.zero_le _
   | succ j ih =>
    intro hj;have:=iter_grows (hno j (by omega));have:=ih (by omega);omega
  have h1:=this (g.length+1) (Nat.le_refl _);have h2:=leaders_le g.length (classIter g (g.length+1));omega
end
section
open Go.RowKit Go.Proofs
def relS (f:Nat->Nat) (s:Sig):Sig:=⟨s.args.map fun a=>(f a.toNat:Int),if 0<=s.result then (f s.result.toNat:Int) else s.result,s.raises⟩
def relM (f:Nat->Nat) (m:Meth):Meth:=⟨m.name,relS f m.sig,m.proc⟩
def relP (f:Nat->Nat) (p:Part):Part:=⟨p.name,(f p.type.toNat:Int)⟩
def relT (f:Nat->Nat) (x:Ty):Ty:={ x with super:=if hasSuperB x.kind then (f x.super.toNat:Int) else x.super,parts:=x.parts.map (relP f),methods:=x.methods.map (relM f) }
structure Morph (f:Nat->Nat) (g h:List Ty):Prop where
 lt:∀ i,i<g.length->f i<h.length
 onto:∀ j,j<h.length->∃ i,i<g.length/\f i=j
 ty:∀ i,i<g.length->nth h (f i)=relT f (nth g i)
section
variable {f:Nat->Nat} {g h:List Ty}
theorem rel_kind (x:Ty):(relT f x).kind=x.kind:=rfl
theorem rel_super (x:Ty):(relT f x).super=if hasSuperB x.kind then (f x.super.toNat:Int) else x.super:=rfl
theorem Morph.has (m:Morph f g h) {i:Int} (hi:hasI g.length i=true):hasI h.length (f i.toNat:Int)=true:=by
 unfold hasI at *;simp only [Bool.and_eq_true,decide_eq_true_eq] at *;have:=m.lt i.toNat (by omega);omega
theorem Morph.over (m:Morph f g h) {s:Int} {ks:List Int} (hs:overB g s ks=true):overB h (f s.toNat:Int) ks=true:=by
 unfold overB at *;rw [Bool.and_eq_true] at *;refine ⟨m.has hs.1,?_⟩;have hlt:s.toNat<g.length:=by have:=hs.1; unfold hasI at this; simp only [Bool.and_eq_true,decide_eq_true_eq] at this; omega
 rw [Int.toNat_natCast,m.ty _ hlt];exact hs.2
theorem Morph.sig (m:Morph f g h) {s:Sig} (hs:signedB g.length s=true):signedB h.length (relS f s)=true:=by
 unfold signedB at *;simp only [Bool.and_eq_true,List.all_eq_true] at *;obtain ⟨⟨⟨⟨h1,h2⟩,h3⟩,h4⟩,h5⟩:=hs;refine ⟨⟨⟨⟨by unfold relS; simpa using h1,h2⟩,?_⟩,?_⟩,h5⟩
 ·unfold relS;simp only [Bool.or_eq_true,beq_iff_eq] at h3 ⊢;rcases h3 with h3 | h3
  ·left; rw [h3]; rfl
  ·right;have h0:0<=s.result:=by unfold hasI at h3; simp only [Bool.and_eq_true,decide_eq_true_eq] at h3; exact h3.1
   rw [if_pos h0];exact m.has h3
 ·intro x hx;unfold relS at hx;obtain ⟨y,hy,rfl⟩:=List.mem_map.1 hx;exact m.has (h4 y hy)
theorem Morph.branded (m:Morph f g h) {x:Ty} (hx:brandedB g x=true):brandedB h (relT f x)=true:=by
 unfold brandedB at *;simp only [Bool.and_eq_true,List.all_eq_true] at *;refine ⟨hx.1,fun p hp=>?_⟩;obtain ⟨y,hy,rfl⟩:=List.mem_map.1 (show p∈x.parts.map (relP f) from hp);exact m.has (hx.2 y hy)
theorem rel_parts (x:Ty):(relT f x).parts.map (·.name)=x.parts.map (·.name):=by
 show (x.parts.map (relP f)).map (·.name)=_
 rw [List.map_map]; rfl
theorem rel_meths (x:Ty):(relT f x).methods.map (·.name)=x.methods.map (·.name):=by
 show (x.methods.map (relM f)).map (·.name)=_
 rw [List.map_map]; rfl
theorem rel_noParts (x:Ty):noParts (relT f x)=noParts x:=by unfold noParts relT; simp
theorem rel_noRows (x:Ty):noRows (relT f x)=noRows x:=by unfold noRows relT; simp
theorem rel_noSuper {x:Ty} (hk:hasSuperB x.kind=false):noSuper (relT f x)=noSuper x:=by unfold noSuper; rw [rel_super,hk]; rfl
theorem Morph.objects (m:Morph f g h) {x:Ty} (hk:hasSuperB x.kind=true) (hx:objectsB g x=true):objectsB h (relT f x)=true:=by
 unfold objectsB objectB at *;simp only [Bool.and_eq_true,List.all_eq_true] at *;obtain ⟨⟨h1,h2⟩,⟨⟨⟨h3,h4⟩,h5⟩,h6⟩,h7⟩:=hx;refine ⟨⟨m.branded h1,by rw [rel_parts]; exact h2⟩,⟨⟨⟨fun y hy=>?_,h4⟩,by rw [rel_meths]; exact h5⟩,h6⟩,?_⟩
 ·obtain ⟨z,hz,rfl⟩:=List.mem_map.1 (show y∈x.methods.map (relM f) from hy);have:=h3 z hz;exact ⟨m.sig this.1,this.2⟩
 ·rw [rel_super,hk]; exact m.over h7
theorem Morph.right (m:Morph f g h) {x:Ty} (hx:rightB g x=true):rightB h (relT f x)=true:=by
 unfold rightB at *;rw [rel_kind];by_cases k3:x.kind=3
 ·rw [if_pos k3] at hx ⊢;have hs:hasSuperB x.kind=false:=by rw [k3]; rfl
  rw [rel_noSuper hs,rel_noParts,rel_noRows]; exact hx
 rw [if_neg k3] at hx ⊢;by_cases k9:x.kind=9\/x.kind=11
 ·rw [if_pos k9] at hx ⊢;have hs:hasSuperB x.kind=false:=by rcases k9 with k | k <;> (rw [k]; rfl)
  rw [rel_noSuper hs,rel_noRows];simp only [Bool.and_eq_true] at *;obtain ⟨⟨⟨⟨h1,h2⟩,h3⟩,h4⟩,h5⟩:=hx;refine ⟨⟨⟨⟨?_,h2⟩,h3⟩,h4⟩,h5⟩;unfold heldB at *;rw [Bool.and_eq_true] at *;refine ⟨m.branded h1.1,?_⟩;have h6:=h1.2;show (match x.parts.map (relP f) with | [p]=>p.name.size==0 | _=>false)=true
  match hp:x.parts,h6 with
  | [p],h6=>exact h6
 rw [if_neg k9] at hx ⊢;by_cases k10:x.kind=10
 ·rw [if_pos k10] at hx ⊢;have hs:hasSuperB x.kind=false:=by rw [k10]; rfl
  rw [rel_noSuper hs,rel_noRows];simp only [Bool.and_eq_true] at *;obtain ⟨⟨⟨⟨h1,h2⟩,h3⟩,h4⟩,h5⟩:=hx;refine ⟨⟨⟨⟨?_,h2⟩,h3⟩,h4⟩,h5⟩;unfold recordedB at *;simp only [Bool.and_eq_true] at *;exact ⟨⟨m.branded h1.1.1,by show decide (0<(x.parts.map (relP f)).length)=true; rw [List.length_map]; exact h1.1.2⟩,by rw [rel_parts]; exact h1.2⟩
 rw [if_neg k10] at hx ⊢;by_cases k12:x.kind=12
 ·rw [if_pos k12] at hx ⊢;simp only [Bool.and_eq_true] at *;exact ⟨⟨m.objects (by rw [k12]; rfl) hx.1.1,hx.1.2⟩,hx.2⟩
 rw [if_neg k12] at hx ⊢;by_cases k13:x.kind=13
 ·rw [if_pos k13] at hx ⊢;have hs:hasSuperB x.kind=true:=by rw [k13]; rfl
  rw [rel_noParts,rel_noRows];simp only [Bool.and_eq_true] at *;refine ⟨⟨⟨⟨?_,hx.1.1.1.2⟩,hx.1.1.2⟩,hx.1.2⟩,hx.2⟩;have h1:=hx.1.1.1.1;unfold opqB at *;rw [Bool.and_eq_true] at *;exact ⟨h1.1,by rw [rel_super,hs]; exact m.over h1.2⟩
 rw [if_neg k13] at hx ⊢;by_cases k1:1<=x.kind/\x.kind<=8
 ·rw [if_pos k1] at hx ⊢;have hs:hasSuperB x.kind=false:=by unfold hasSuperB; simp; omega
  rw [rel_noSuper hs,rel_noParts,rel_noRows]; exact hx
 ·rw [if_neg k1] at hx; cases hx
end
theorem Morph.up {f:Nat->Nat} {g h:List Ty} (m:Morph f g h) (hr:∀ i,i<g.length->rightB g (nth g i)=true):∀ (k a:Nat),a<g.length->itO h k (f a)=(itO g k a).map f
 | 0,a,ha=>rfl
 | k+1,a,ha=>by
  simp only [itO];rw [m.ty a ha,rel_kind,rel_super];cases hs:hasSuperB (nth g a).kind
  ·rfl
  ·simp only [if_true,Int.toNat_natCast];have:=right_super (hr a ha) hs;exact m.up hr k _ (by omega)
theorem up_ends {g:List Ty} (hr:∀ i,i<g.length->rightB g (nth g i)=true) (hn:∀ i,i<g.length->ringB g i g.length i=false) {a:Nat} (ha:a<g.length):itO g g.length a=none:=by
 cases hx:itO g g.length a with
 | none=>rfl
 | some y =>
  exfalso;have hsome:∀ j,j<=g.length->∃ x,itO g j a=some x/\itO g (g.length-j) x=some y:=fun j hj=>by
   rw [show g.length=j+(g.length-j) by omega,itO_add] at hx;cases hz:itO g j a with
   | none=>rw [hz] at hx; cases hx
   | some x=>rw [hz] at hx; exact ⟨x,rfl,hx⟩
  have hnd:((List.range (g.length+1)).map fun j=>(itO g j a).getD 0).Nodup:=by
   rw [List.nodup_iff_pairwise_ne,List.pairwise_map];refine List.pairwise_lt_range.imp_of_mem (fun {p q} hp hq hpq he=>?_);have hp:=List.mem_range.1 hp;have hq:=List.mem_range.1 hq;obtain ⟨x,hx1,_⟩:=hsome p (by omega);obtain ⟨z,hz1,_⟩:=hsome q (by omega);rw [hx1,hz1] at he;have he:x=z:=he;subst he;have hxl:=itO_lt hr p a x ha hx1;have hring:ringB g x g.length x=true:=(ring_iff _ _).2 ⟨q-p,by omega,by omega,by
    rw [show q=p+(q-p) by omega,itO_add,hx1] at hz1;exact hz1⟩
   rw [hn x hxl] at hring;cases hring
  have hle:=nodup_le (n:=g.length) hnd (fun x hx=>by
   obtain ⟨j,hj,rfl⟩:=List.mem_map.1 hx;have hj:=List.mem_range.1 hj;obtain ⟨z,hz,_⟩:=hsome j (by omega);rw [hz];exact itO_lt hr j a z ha hz)
  rw [List.length_map,List.length_range] at hle;omega
theorem up_more {g:List Ty} {k a:Nat} (h:itO g k a=none) (d:Nat):itO g (k+d) a=none:=by rw [itO_add,h]; rfl
theorem ring_free {g:List Ty} {i:Nat} {n:Nat} (h:itO g n i=none):∀ m,ringB g i m i=false:=fun m=>by
 cases hb:ringB g i m i with
 | false=>rfl
 | true =>
  exfalso;obtain ⟨k,h1,_,h3⟩:=(ring_iff _ _).1 hb;have:∀ c,itO g (c*k) i=some i:=fun c=>by
   induction c with
   | zero=>rw [Nat.zero_mul]; rfl
   | succ c ih=>rw [Nat.succ_mul,itO_add,ih]; exact h3
  have h4:=this n;have h5:n<=n*k:=Nat.le_mul_of_pos_right n h1;rw [show n*k=n+(n*k-n) by omega,up_more h] at h4;cases h4
theorem check_ok {g:List Ty} (h:(checkB g).2=0):g.length<=400/\(∀ i,i<g.length->rightB g (nth g i)=true)/\∀ i,i<g.length->ringB g i g.length i=false:=by
 unfold checkB at h;split at h
 ·cases h
 ·rename_i hl
  split at h
  ·cases h
  ·rename_i h1
   split at h
   ·cases h
   ·rename_i h2
    rw [List.find?_eq_none] at h1 h2;exact ⟨by omega,fun i hi=>by simpa using h1 i (List.mem_range.2 hi),fun i hi=>by simpa using h2 i (List.mem_range.2 hi)⟩
theorem check_of {g:List Ty} (hl:g.length<=400) (h1:∀ i,i<g.length->rightB g (nth g i)=true) (h2:∀ i,i<g.length->ringB g i g.length i=false):(checkB g).2=0:=by
 unfold checkB;rw [if_neg (by omega)];rw [List.find?_eq_none.2 (fun i hi=>by rw [h1 i (List.mem_range.1 hi)]; decide)];rw [List.find?_eq_none.2 (fun i hi=>by rw [h2 i (List.mem_range.1 hi)]; decide)]
theorem Morph.check {f:Nat->Nat} {g h:List Ty} (m:Morph f g h) (hl:h.length<=400) (hc:(checkB g).2=0):(checkB h).2=0:=by
 obtain ⟨_,h1,h2⟩:=check_ok hc;refine check_of hl (fun j hj=>?_) (fun j hj=>?_)
 ·obtain ⟨i,hi,rfl⟩:=m.onto j hj;rw [m.ty i hi];exact m.right (h1 i hi)
 ·obtain ⟨i,hi,rfl⟩:=m.onto j hj;exact ring_free (n:=g.length) (by rw [m.up h1 _ _ hi,up_ends h1 h2 hi]; rfl) _
theorem same_kernel {q:Nat->Nat->Bool} (hr:∀ i,q i i=true) (hs:∀ i j,q i j=q j i) (ht:∀ i j k,q i j=true->q j k=true->q i k=true) (i j:Nat):leadF q i=leadF q j↔q i j=true:=by
 have hw:∀ i,q i (leadF q i)=true:=fun i=>by
  rcases leadF_with q i with h | h
  ·rw [h]; exact hr i
  ·exact h
 constructor
 ·intro h;have h1:=hw i;have h2:=hw j;rw [<- h] at h2;exact ht _ _ _ h1 (by rw [hs]; exact h2)
 ·intro h;have hk:∀ k,q i k=q j k:=fun k=>by
   rw [Bool.eq_iff_iff];exact ⟨fun h2=>ht _ _ _ (by rw [hs]; exact h) h2,fun h2=>ht _ _ _ h h2⟩
  rcases Nat.le_total i j with hij | hij
  ·exact leadF_same hij hk (hr i)
  ·exact (leadF_same hij (fun k=>(hk k).symm) (hr j)).symm
theorem class0_iff {g:List Ty} (i j:Nat):class0 g i=class0 g j↔agreeB (nth g i) (nth g j)=true:=by
 unfold class0;exact same_kernel (q:=fun i k=>agreeB (nth g i) (nth g k)) (fun i=>agreeB_refl _) (fun i j=>agree_symm _ _) (fun i j k=>agree_trans _ _ _) i j
theorem sameB_eq {l m:List Int}:sameB (fun (x y:Int)=>x==y) l m=true↔l=m:=by
 induction l generalizing m with
 | nil=>cases m with
  | nil=>simp [sameB]
  | cons y m=>simp [sameB]
 | cons x l ih=>cases m with
  | nil=>simp [sameB]
  | cons y m=>simp only [sameB,Bool.and_eq_true,beq_iff_eq,ih,List.cons.injEq]
theorem step_iff {g:List Ty} {C:Nat->Nat} (i j:Nat):classStep g C i=classStep g C j↔C i=C j/\mineOf g C i=mineOf g C j:=by
 unfold classStep parted stepQ;rw [same_kernel]
 ·rw [Bool.and_eq_true,beq_iff_eq,sameB_eq];exact ⟨fun h=>⟨h.1.symm,h.2⟩,fun h=>⟨h.1.symm,h.2⟩⟩
 ·intro i;rw [Bool.and_eq_true,beq_iff_eq,sameB_eq];exact ⟨rfl,rfl⟩
 ·intro i j;rw [Bool.eq_iff_iff];simp only [Bool.and_eq_true,beq_iff_eq,sameB_eq];exact ⟨fun h=>⟨h.1.symm,h.2.symm⟩,fun h=>⟨h.1.symm,h.2.symm⟩⟩
 ·intro i j k h1 h2;simp only [Bool.and_eq_true,beq_iff_eq,sameB_eq] at *;exact ⟨h2.1.trans h1.1,h1.2.trans h2.2⟩
theorem rel_refs (f:Nat->Nat) {x:Ty}:refsOf (relT f x)=(refsOf x).map fun r=>(f r.toNat:Int):=by
 have hm:∀ ms:List Meth,((ms.map (relM f)).map fun m=>m.sig.args++(if 0<=m.sig.result then [m.sig.result] else [])).flatten=((ms.map fun m=>m.sig.args++(if 0<=m.sig.result then [m.sig.result] else [])).flatten).map fun r=>(f r.toNat:Int):=fun ms=>by
  induction ms with
  | nil=>rfl
  | cons y ms ih =>
   simp only [List.map_cons,List.flatten_cons,List.map_append,ih]
   congr 1
   unfold relM relS;by_cases h0:0<=y.sig.result
   ·simp only [h0,if_true];rw [if_pos (by omega)]; rfl
   ·simp only [h0,if_false]
    rfl
 unfold refsOf;rw [rel_kind,rel_super,List.map_append,List.map_append]
 congr 1
 ·congr 1
  ·cases hasSuperB x.kind <;> rfl
  ·show (x.parts.map (relP f)).map (·.type)=_
   rw [List.map_map,List.map_map]; rfl
 ·exact hm x.methods
theorem map_kernel {α β γ:Type} {F:α->β} {G:α->γ}:∀ (l m:List α),(∀ a,a∈l->∀ b,b∈m->(F a=F b↔G a=G b))->(l.map F=m.map F↔l.map G=m.map G)
 | [],[],_=>by simp
 | [],_ :: _,_=>by simp
 | _ :: _,[],_=>by simp
 | a :: l,b :: m,h=>by
  simp only [List.map_cons,List.cons.injEq];rw [h a (List.mem_cons_self ..) b (List.mem_cons_self ..),map_kernel l m (fun a ha b hb=>h a (List.mem_cons_of_mem _ ha) b (List.mem_cons_of_mem _ hb))]
theorem sameB_map {α:Type} {eq:α->α->Bool} {F:α->α} (hF:∀ x y,eq (F x) (F y)=eq x y):∀ l m,sameB eq (l.map F) (m.map F)=sameB eq l m
 | [],[]=>rfl
 | [],_ :: _=>rfl
 | _ :: _,[]=>rfl
 | x :: l,y :: m=>by simp only [List.map_cons,sameB,hF,sameB_map hF l m]
theorem rel_sign (f:Nat->Nat) (s:Sig):decide ((relS f s).result<0)=decide (s.result<0):=by
 show decide ((if 0<=s.result then (f s.result.toNat:Int) else s.result)<0)=_
 by_cases h0:0<=s.result
 ·rw [if_pos h0,decide_eq_false (by omega),decide_eq_false (by omega)]
 ·rw [if_neg h0]
theorem rel_agree (f:Nat->Nat) (x y:Ty):agreeB (relT f x) (relT f y)=agreeB x y:=by
 have hp:sameB partEq (relT f x).parts (relT f y).parts=sameB partEq x.parts y.parts:=sameB_map (F:=relP f) (fun a b=>rfl) x.parts y.parts;have hm:sameB methEq (relT f x).methods (relT f y).methods=sameB methEq x.methods y.methods:=sameB_map (F:=relM f) (fun a b=>by
  unfold methEq;show (a.name==b.name&&a.proc==b.proc&&(relS f a.sig).args.length==(relS f b.sig).args.length&&(decide ((relS f a.sig).result<0)==decide ((relS f b.sig).result<0))&&sameB (fun (a b:BA)=>a==b) a.sig.raises b.sig.raises)=_
  rw [rel_sign,rel_sign];unfold relS;simp only [List.length_map]) x.methods y.methods
 unfold agreeB;rw [hp,hm]
 rfl
theorem Morph.iter {f:Nat->Nat} {g h:List Ty} (m:Morph f g h) (hr:∀ i,i<g.length->rightB g (nth g i)=true):∀ k i j,i<g.length->j<g.length->(classIter h k (f i)=classIter h k (f j)↔classIter g k i=classIter g k j)
 | 0,i,j,hi,hj=>by
  show class0 h (f i)=class0 h (f j)↔class0 g i=class0 g j
  rw [class0_iff,class0_iff,m.ty i hi,m.ty j hj,rel_agree]
 | k+1,i,j,hi,hj=>by
  show classStep h _ (f i)=classStep h _ (f j)↔classStep g _ i=classStep g _ j
  rw [step_iff,step_iff,m.iter hr k i j hi hj];unfold mineOf;rw [m.ty i hi,m.ty j hj,rel_refs,rel_refs,List.map_map,List.map_map];rw [map_kernel (F:=(fun r:Int=>(classIter h k r.toNat:Int)) ∘ fun r:Int=>(f r.toNat:Int)) (G:=fun r:Int=>(classIter g k r.toNat:Int)) (refsOf (nth g i)) (refsOf (nth g j)) (fun a ha b hb=>by
   have h1:=refs_in (hr i hi) a ha;have h2:=refs_in (hr j hj) b hb;simp only [Function.comp,Int.toNat_natCast];have:=m.iter hr k a.toNat b.toNat (by omega) (by omega);constructor
   ·intro e; have e:=this.1 (by omega); omega
   ·intro e; have e:=this.2 (by omega); omega)]
theorem iter_end {g:List Ty} (hr:∀ i,i<g.length->rightB g (nth g i)=true) {k:Nat} (hk:g.length<=k) {i:Nat} (hi:i<g.length):classIter g k i=classesOf g i:=by
 obtain ⟨m,h1,h2,h3⟩:=fix_some g;rw [classesOf_eq h1 h2 h3,show k=m+(k-m) by omega];exact iter_rest hr h2 _ i hi
theorem Morph.same {f:Nat->Nat} {g h:List Ty} (m:Morph f g h) (hg:(checkB g).2=0) (hh:(checkB h).2=0) {i j:Nat} (hi:i<g.length) (hj:j<g.length):classesOf h (f i)=classesOf h (f j)↔classesOf g i=classesOf g j:=by
 obtain ⟨_,h1,_⟩:=check_ok hg;obtain ⟨_,k1,_⟩:=check_ok hh;have:=m.iter h1 (g.length+h.length) i j hi hj
 rwa [iter_end k1 (by omega) (m.lt i hi),iter_end k1 (by omega) (m.lt j hj),iter_end h1 (by omega) hi,iter_end h1 (by omega) hj] at this
end
section
open Go.RowKit Go.Proofs
end
section
open Go.RowKit Go.Proofs
structure CR (w wr:World) (r n:Nat) (F:Nat->Int):Prop where
 ext:Ext w wr
 row:RowI wr r n F
 lo:w.heap.size<=r
theorem CR.mono {w wr w2:World} {r n:Nat} {F:Nat->Int} (h:CR w wr r n F) (hE:Ext wr w2):CR w w2 r n F:=⟨h.ext.trans hE,h.row.ext hE,h.lo⟩
theorem CR.set {w wr:World} {r n:Nat} {F:Nat->Int} (h:CR w wr r n F) (i:Nat) (v:Int):CR w (wr.setCell ⟨r,i,none⟩ (.int .i64 v)) r n (fun j=>if j=i then v else F j) :=
 ⟨Below.setCell h.ext h.lo _,h.row.set i v,h.lo⟩
theorem CR.congr {w wr:World} {r n:Nat} {F G:Nat->Int} (h:CR w wr r n F) (hF:∀ i,i<n->F i=G i):CR w wr r n G:=⟨h.ext,h.row.congr hF,h.lo⟩
structure NR (w wr:World) (r r2 n:Nat) (F F2:Nat->Int):Prop where
 cr:CR w wr r n F
 row2:RowI wr r2 n F2
 ne:r2≠r
 lo2:w.heap.size<=r2
theorem NR.mono {w wr w2:World} {r r2 n:Nat} {F F2:Nat->Int} (h:NR w wr r r2 n F F2) (hE:Ext wr w2):NR w w2 r r2 n F F2:=⟨h.cr.mono hE,h.row2.ext hE,h.ne,h.lo2⟩
theorem NR.set {w wr:World} {r r2 n:Nat} {F F2:Nat->Int} (h:NR w wr r r2 n F F2) (i:Nat) (v:Int):NR w (wr.setCell ⟨r2,i,none⟩ (.int .i64 v)) r r2 n F (fun j=>if j=i then v else F2 j) :=
 ⟨⟨Below.setCell h.cr.ext h.lo2 _,(Below.heap_setCell _ _ _ _ (fun e=>h.ne e.symm)).trans h.cr.row,h.cr.lo⟩,h.row2.set i v,h.ne,h.lo2⟩
theorem NR.congr {w wr:World} {r r2 n:Nat} {F F2 G2:Nat->Int} (h:NR w wr r r2 n F F2) (hF:∀ i,i<n->F2 i=G2 i):NR w wr r r2 n F G2:=⟨h.cr,h.row2.congr hF,h.ne,h.lo2⟩
theorem NR.new {w wr:World} {r n:Nat} {F:Nat->Int} (h:CR w wr r n F):NR w (wr.alloc (.cells (madeCells #[.int .i64 0] n) 3)) r wr.heap.size n F (fun _=>0) :=
 ⟨h.mono (Ext.alloc _ _),RowI.make _ _,by have:=h.row.lt; omega,h.ext.size⟩
theorem NR.swap {w wr:World} {r r2 n:Nat} {F F2:Nat->Int} (h:NR w wr r r2 n F F2):CR w wr r2 n F2:=⟨h.cr.ext,h.row2,h.lo2⟩
end
section
open Go.RowKit Go.Proofs
theorem up_lt {g:List Ty} {rs:List Reveal} (hr:∀ i,i<g.length->rightB g (nth g i)=true) (hrt:∀ i,i<rs.length->0<=(nth rs i).type/\(nth rs i).type<g.length):∀ t,t<g.length->∀ u,u∈upsL g rs t->u<g.length:=fun t ht u hu=>by
 unfold upsL at hu;split at hu
 ·rename_i hs
  have h1:=right_super (hr t ht) hs;rcases List.mem_cons.1 hu with h | h
  ·omega
  ·split at h
   ·obtain ⟨k,hk,rfl⟩:=List.mem_map.1 h;have:=hrt k (byN_lt hk);omega
   ·cases h
 ·cases hu
theorem circ_iff {g:List Ty} {rs:List Reveal} (hr:∀ i,i<g.length->rightB g (nth g i)=true) (hrt:∀ i,i<rs.length->0<=(nth rs i).type/\(nth rs i).type<g.length) :
  circB (succC g (classesOf g) rs) g.length (classesOf g)=true↔∃ a,a<g.length/\Way (succC g (classesOf g) rs) a a:=by
 refine circB_iff (fun x hx u hu=>?_) (fun i hi=>Nat.lt_of_le_of_lt (classesOf_le g i) hi) (fun a ha hs=>?_)
 ·obtain ⟨t,b,ht,_,hb,rfl⟩:=mem_succC.1 hu;have:=up_lt hr hrt t ht b hb;have:=classesOf_le g b;omega
 ·obtain ⟨u,hu⟩:=List.exists_mem_of_ne_nil _ hs;obtain ⟨t,b,ht,hc,_⟩:=mem_succC.1 hu;exact ⟨t,ht,hc⟩
end
end Go.Proofs.YtjffkeoajkhbmaaGreat
