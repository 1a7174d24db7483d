/- A search that counts steps, over rows of numbers (-1: not met); in plain Lean. The reference's circle. The reference's super types. The reference's methods and overrides. What makes an environment right; the two maps that are filled while it is opened. The reference's rules are the types' own, in plain Lean. -/
import Derived.Test.YtjffkeoajkhbmaaGreatOX7
import Derived.Test.YtjffkeoajkhbmaaGreatOX20
import Derived.Test.YtjffkeoajkhbmaaGreatOX21
import Derived.Test.YtjffkeoajkhbmaaGreatOX22
import Derived.Test.YtjffkeoajkhbmaaGreatOX24
namespace Go.Proofs.YtjffkeoajkhbmaaGreat
set_option linter.unusedSimpArgs false
set_option linter.unusedVariables false
set_option maxRecDepth 100000
set_option maxHeartbeats 8000000
section
def Path (succ:Nat->List Nat) (a:Nat):Nat->Nat->Prop
 | 0,b=>b=a
 | k+1,b=>∃ c,Path succ a k c/\b∈succ c
theorem Path.reach {succ:Nat->List Nat} {a:Nat}:∀ {k b:Nat},Path succ a k b->Reach succ a b
 | 0,b,h=>by
  have h:b=a:=h;rw [h]; exact Reach.refl
 | _+1,_,⟨_,h1,h2⟩=>(Path.reach h1).step h2
theorem Path.lt {n a:Nat} {succ:Nat->List Nat} (ha:a<n) (hs:∀ x,x<n->∀ u,u∈succ x->u<n):∀ {k b:Nat},Path succ a k b->b<n
 | 0,b,h=>by
  have h:b=a:=h;omega
 | _+1,_,⟨_,h1,h2⟩=>hs _ (Path.lt ha hs h1) _ h2
def FarOk (n:Nat) (succ:Nat->List Nat) (a:Nat) (f:Nat->Int):Prop :=
 ∀ b,b<n->(f b=-1\/0<=f b)/\(0<=f b->Path succ a (f b).toNat b)/\∀ k,Path succ a k b->0<=f b/\f b<=k
def freeN (n:Nat) (f:Nat->Int):Nat:=unseen n fun i=>decide (0<=f i)
def setF (f:Nat->Int) (b:Nat) (v:Int):Nat->Int:=fun i=>if i=b then v else f i
theorem setF_self (f:Nat->Int) (b:Nat) (v:Int):setF f b v b=v:=if_pos rfl
theorem setF_ne {f:Nat->Int} {b i:Nat} {v:Int} (h:i≠b):setF f b v i=f i:=if_neg h
theorem freeN_set {n b:Nat} {f:Nat->Int} {v:Int} (hb:b<n) (h:f b<0) (hv:0<=v):freeN n (setF f b v)<freeN n f:=by
 unfold freeN;have:=unseen_mark (S:=fun i=>decide (0<=f i)) hb (decide_eq_false (by omega));have he:unseen n (fun i=>decide (0<=setF f b v i))=unseen n (mark (fun i=>decide (0<=f i)) b):=by
  unfold unseen
  congr 1
  refine List.filter_congr (fun i _=>?_);show (!decide (0<=setF f b v i))=!(i==b||decide (0<=f i))
  by_cases e:i=b
  ·subst e; rw [setF_self]; simp [hv]
  ·rw [setF_ne e]; simp [beq_eq_false_iff_ne.2 e]
 rw [he];exact this
theorem freeN_le (n:Nat) (f:Nat->Int):freeN n f<=n:=unseen_le n _
structure FInv (n:Nat) (succ:Nat->List Nat) (a:Nat) (f:Nat->Int) (Q:List Nat):Prop where
 val:∀ u,u<n->f u=-1\/0<=f u/\f u<=n
 way:∀ u,u<n->0<=f u->Path succ a (f u).toNat u
 que:∀ x,x∈Q->x<n/\0<=f x
 cls:∀ x,x<n->0<=f x->x∈Q\/∀ y,y<n->y∈succ x->0<=f y/\f y<=f x+1
 srt:Q.Pairwise fun x y=>f x<=f y
 top:∀ q Q',Q=q :: Q'->∀ u,u<n->0<=f u->f u<=f q+1
 org:f a=0
 cnt:∀ u,u<n->0<=f u->f u+(freeN n f:Int)<n
structure LookF (n:Nat) (succ:Nat->List Nat) (a x b:Nat) (f:Nat->Int) (Q:List Nat):Prop where
 val:∀ u,u<n->f u=-1\/0<=f u/\f u<=n
 way:∀ u,u<n->0<=f u->Path succ a (f u).toNat u
 que:∀ z,z∈Q->z<n/\0<=f z
 cls:∀ z,z<n->0<=f z->z∈Q\/z=x\/∀ y,y<n->y∈succ z->0<=f y/\f y<=f z+1
 srt:Q.Pairwise fun y z=>f y<=f z
 low:∀ z,z∈Q->f x<=f z
 top:∀ u,u<n->0<=f u->f u<=f x+1
 fx:x<n/\0<=f x
 done:∀ y,y<b->y∈succ x->0<=f y/\f y<=f x+1
 org:f a=0
 cnt:∀ u,u<n->0<=f u->f u+(freeN n f:Int)<n
theorem freeN_start {n a:Nat} (ha:a<n):freeN n (setF (fun _=>-1) a 0)<n:=by
 have:=freeN_set (f:=fun _=>-1) (v:=0) ha (by decide) (by decide);have:=freeN_le n (fun _=>-1);omega
theorem FInv.start {n a:Nat} {succ:Nat->List Nat} (ha:a<n):FInv n succ a (setF (fun _=>-1) a 0) [a]:=by
 have hv:∀ u,0<=setF (fun _=>-1) a 0 u->u=a:=fun u hu=>by
  by_cases e:u=a
  ·exact e
  ·rw [setF_ne e] at hu; omega
 refine ⟨fun u _=>?_,fun u _ h=>?_,fun x hx=>?_,fun x _ h=>?_,by simp,fun q Q' e u _ hu=>?_,setF_self _ _ _,fun u _ hu=>?_⟩
 ·by_cases e:u=a
  ·subst e; rw [setF_self]; omega
  ·rw [setF_ne e]; exact Or.inl rfl
 ·rw [hv u h,setF_self]; rfl
 ·rw [List.mem_singleton] at hx;subst hx; rw [setF_self]; exact ⟨ha,by decide⟩
 ·rw [hv x h]; exact Or.inl (by simp)
 ·cases e;rw [hv u hu,setF_self]; decide
 ·rw [hv u hu,setF_self];have:=freeN_start ha;omega
theorem LookF.all {n a x:Nat} {succ:Nat->List Nat} {f:Nat->Int} {Q:List Nat} (h:LookF n succ a x n f Q):FInv n succ a f Q :=
 ⟨h.val,h.way,h.que,fun z h1 h2=>by
  rcases h.cls z h1 h2 with h3 | rfl | h3
  ·exact Or.inl h3
  ·exact Or.inr h.done
  ·exact Or.inr h3,h.srt,fun q Q' e u h1 h2=>by
   have h3:=h.low q (by rw [e]; simp);have h4:=h.top u h1 h2;omega,h.org,h.cnt⟩
theorem LookF.skip {n a x b:Nat} {succ:Nat->List Nat} {f:Nat->Int} {Q:List Nat} (h:LookF n succ a x b f Q) (hbn:b<n) (hb:b∈succ x->0<=f b):LookF n succ a x (b+1) f Q :=
 ⟨h.val,h.way,h.que,h.cls,h.srt,h.low,h.top,h.fx,fun y hy hm=>by
   by_cases e:y=b
   ·subst e; exact ⟨hb hm,h.top _ hbn (hb hm)⟩
   ·exact h.done y (by omega) hm,h.org,h.cnt⟩
theorem LookF.push {n a x b:Nat} {succ:Nat->List Nat} {f:Nat->Int} {Q:List Nat} (h:LookF n succ a x b f Q) (hbn:b<n) (hb:b∈succ x) (hf:f b<0):LookF n succ a x (b+1) (setF f b (f x+1)) (Q++[b]):=by
 obtain ⟨hxn,hx0⟩:=h.fx;have hxb:x≠b:=fun e=>by subst e; omega
 have hfx:setF f b (f x+1) x=f x:=setF_ne hxb;have old:∀ u,0<=f u->setF f b (f x+1) u=f u:=fun u hu=>setF_ne (fun e=>by subst e; omega);have cas:∀ u,0<=setF f b (f x+1) u->u=b\/0<=f u/\setF f b (f x+1) u=f u:=fun u hu=>by
  by_cases e:u=b
  ·exact Or.inl e
  ·rw [setF_ne e] at hu ⊢; exact Or.inr ⟨hu,rfl⟩
 have hfr:=freeN_set (v:=f x+1) hbn hf (by omega);have hc:=h.cnt x hxn hx0;refine ⟨fun u hu=>?_,fun u hu h0=>?_,fun z hz=>?_,fun z hz h0=>?_,?_,fun z hz=>?_,fun u hu h0=>?_,⟨hxn,by rw [hfx]; exact hx0⟩,fun y hy hm=>?_,?_,fun u hu h0=>?_⟩
 ·by_cases e:u=b
  ·subst e; rw [setF_self]; right; constructor <;> omega
  ·rw [setF_ne e]; exact h.val u hu
 ·rcases cas u h0 with rfl | ⟨h1,h2⟩
  ·rw [setF_self,show (f x+1).toNat=(f x).toNat+1 by omega];exact ⟨x,h.way x hxn hx0,hb⟩
  ·rw [h2]; exact h.way u hu h1
 ·rcases List.mem_append.1 hz with hz | hz
  ·have:=h.que z hz;rw [old z this.2]; exact this
  ·rw [List.mem_singleton] at hz;subst hz; rw [setF_self]; exact ⟨hbn,by omega⟩
 ·rcases cas z h0 with rfl | ⟨h1,h2⟩
  ·exact Or.inl (by simp)
  ·rcases h.cls z hz h1 with h3 | h3 | h3
   ·exact Or.inl (List.mem_append_left _ h3)
   ·exact Or.inr (Or.inl h3)
   ·refine Or.inr (Or.inr fun y hy hm=>?_);have h4:=h3 y hy hm;rw [old y h4.1,h2]; exact h4
 ·rw [List.pairwise_append];refine ⟨h.srt.imp_of_mem (fun {y z} hy hz hyz=>by rw [old y (h.que y hy).2,old z (h.que z hz).2]; exact hyz),by simp,fun y hy z hz=>?_⟩;rw [List.mem_singleton] at hz;subst hz;have:=h.que y hy;rw [setF_self,old y this.2];exact h.top y this.1 this.2
 ·rw [hfx];rcases List.mem_append.1 hz with hz | hz
  ·rw [old z (h.que z hz).2]; exact h.low z hz
  ·rw [List.mem_singleton] at hz;subst hz; rw [setF_self]; omega
 ·rw [hfx];rcases cas u h0 with rfl | ⟨h1,h2⟩
  ·rw [setF_self]; exact Int.le_refl _
  ·rw [h2]; exact h.top u hu h1
 ·rw [hfx];by_cases e:y=b
  ·subst e; rw [setF_self]; exact ⟨by omega,Int.le_refl _⟩
  ·have:=h.done y (by omega) hm;rw [old y this.1]; exact this
 ·rw [old a (by rw [h.org]; decide)]; exact h.org
 ·rcases cas u h0 with rfl | ⟨h1,h2⟩
  ·rw [setF_self]; omega
  ·rw [h2];have:=h.cnt u hu h1;omega
theorem FInv.done {n a:Nat} {succ:Nat->List Nat} {f:Nat->Int} (hs:∀ x,x<n->∀ u,u∈succ x->u<n) (ha:a<n) (h:FInv n succ a f []):FarOk n succ a f:=by
 have key:∀ k b,Path succ a k b->0<=f b/\f b<=k:=by
  intro k
  induction k with
  | zero =>
   intro b hb;have hb:b=a:=hb;subst hb;rw [h.org]; exact ⟨by decide,by decide⟩
  | succ k ih =>
   rintro b ⟨c,hc,hb⟩;have hcn:=Path.lt ha hs hc;have h1:=ih c hc;rcases h.cls c hcn h1.1 with h2 | h2
   ·cases h2
   ·have:=h2 b (hs c hcn b hb) hb;constructor <;> omega
 exact fun b hb=>⟨(h.val b hb).imp id And.left,h.way b hb,fun k=>key k b⟩
end
section
open Go.RowKit Go.Proofs
theorem mem_succC {g:List Ty} {C:Nat->Nat} {rs:List Reveal} {c u:Nat}:u∈succC g C rs c↔∃ t b,t<g.length/\C t=c/\b∈upsL g rs t/\C b=u:=by
 unfold succC succTo;simp only [List.mem_flatten,List.mem_map,List.mem_range];constructor
 ·rintro ⟨l,⟨t,ht,rfl⟩,hu⟩;split at hu
  ·rename_i hc
   obtain ⟨b,hb,rfl⟩:=List.mem_map.1 hu;exact ⟨t,b,ht,hc,hb,rfl⟩
  ·cases hu
 ·rintro ⟨t,b,ht,hc,hb,rfl⟩;exact ⟨_,⟨t,ht,rfl⟩,by rw [if_pos hc]; exact List.mem_map.2 ⟨b,hb,rfl⟩⟩
def TabOk (g:List Ty) (C:Nat->Nat) (rs:List Reveal) (a b:Nat) (F:Nat->Nat->Bool):Prop :=
 ∀ x y,x<g.length->y<g.length->(F x y=true↔∃ t u,(t<a\/t=a/\u<b)/\u<g.length/\u∈upsL g rs t/\C t=x/\C u=y)
theorem TabOk.skip {g:List Ty} {C:Nat->Nat} {rs:List Reveal} {a b:Nat} {F:Nat->Nat->Bool} (h:TabOk g C rs a b F) (hb:b∉upsL g rs a):TabOk g C rs a (b+1) F:=fun x y hx hy=>by
 rw [h x y hx hy];constructor
 ·rintro ⟨t,u,h1,h2⟩; exact ⟨t,u,h1.imp id (fun e=>⟨e.1,by omega⟩),h2⟩
 ·rintro ⟨t,u,h1,h2,h3,h4⟩;refine ⟨t,u,?_,h2,h3,h4⟩;rcases h1 with h1 | ⟨rfl,h1⟩
  ·exact Or.inl h1
  ·by_cases e:u=b
   ·subst e; exact absurd h3 hb
   ·exact Or.inr ⟨rfl,by omega⟩
theorem TabOk.hit {g:List Ty} {C:Nat->Nat} {rs:List Reveal} {a b:Nat} {F:Nat->Nat->Bool} (h:TabOk g C rs a b F) (hbn:b<g.length) (hb:b∈upsL g rs a):TabOk g C rs a (b+1) (fun i=>if i=C a then mark (F (C a)) (C b) else F i):=fun x y hx hy=>by
 have key:((fun i=>if i=C a then mark (F (C a)) (C b) else F i) x y=true)↔(F x y=true\/x=C a/\y=C b):=by
  show ((if x=C a then mark (F (C a)) (C b) else F x) y=true)↔_
  by_cases e:x=C a
  ·subst e;simp only [if_true,mark,Bool.or_eq_true,beq_iff_eq,true_and];exact Or.comm
  ·rw [if_neg e]; simp [e]
 rw [key,h x y hx hy];constructor
 ·rintro (⟨t,u,h1,h2⟩ | ⟨rfl,rfl⟩)
  ·exact ⟨t,u,h1.imp id (fun e=>⟨e.1,by omega⟩),h2⟩
  ·exact ⟨a,b,Or.inr ⟨rfl,by omega⟩,hbn,hb,rfl,rfl⟩
 ·rintro ⟨t,u,h1,h2,h3,h4,h5⟩;rcases h1 with h1 | ⟨rfl,h1⟩
  ·exact Or.inl ⟨t,u,Or.inl h1,h2,h3,h4,h5⟩
  ·by_cases e:u=b
   ·subst e; exact Or.inr ⟨h4.symm,h5.symm⟩
   ·exact Or.inl ⟨t,u,Or.inr ⟨rfl,by omega⟩,h2,h3,h4,h5⟩
theorem TabOk.full {g:List Ty} {C:Nat->Nat} {rs:List Reveal} {F:Nat->Nat->Bool} (h:TabOk g C rs g.length 0 F) (hup:∀ t,t<g.length->∀ u,u∈upsL g rs t->u<g.length):∀ x y,x<g.length->y<g.length->(F x y=true↔y∈succC g C rs x):=fun x y hx hy=>by
 rw [h x y hx hy,mem_succC];constructor
 ·rintro ⟨t,u,h1,_,h3,h4,h5⟩;exact ⟨t,u,by omega,h4,h3,h5⟩
 ·rintro ⟨t,u,h1,h4,h3,h5⟩;exact ⟨t,u,Or.inl h1,hup t h1 u h3,h3,h4,h5⟩
end
section
open Go.RowKit Go.Proofs
end
section
open Go.RowKit Go.Proofs
end
section
open Go.RowKit Go.Proofs
theorem classIter_le (g:List Ty):∀ m i,classIter g m i<=i
 | 0,i=>leadF_le _ i
 | m+1,i=>leadF_le _ i
theorem classesOf_le (g:List Ty) (i:Nat):classesOf g i<=i:=classIter_le g _ i
def fullB (rs:List Reveal) (k:Nat) (name:BA):Bool:=(List.range k).any fun i=>(nth rs i).full&&(nth rs i).name==name
theorem fullB_succ (rs:List Reveal) (k:Nat) (name:BA):fullB rs (k+1) name=(fullB rs k name||((nth rs k).full&&(nth rs k).name==name)):=by
 unfold fullB; rw [List.range_succ,List.any_append]; simp
def badRev (g:List Ty) (rs:List Reveal) (k:Nat):Bool :=
 !isSymbolB (nth rs k).name||!hasI g.length (nth rs k).type||isWordB (nth g (nth rs k).type.toNat).kind||(nth g (nth rs k).type.toNat).kind==5 ||
  ((nth rs k).full&&(!(nth g (nth rs k).type.toNat).branded||fullB rs k (nth rs k).name))
def openE (g:List Ty) (rs:List Reveal):Int :=
 if (checkB g).2=0 then (if 60<rs.length then 2 else if (List.range rs.length).any (badRev g rs) then 40 else if circB (succC g (classesOf g) rs) g.length (classesOf g) then 40 else 0) else 30
theorem openE_graph {g:List Ty} {rs:List Reveal} (h:(checkB g).2=30):openE g rs=30:=by unfold openE; rw [if_neg (by rw [h]; decide)]
theorem openE_many {g:List Ty} {rs:List Reveal} (h:(checkB g).2=0) (h6:60<rs.length):openE g rs=2:=by unfold openE; rw [if_pos h,if_pos h6]
theorem openE_bad {g:List Ty} {rs:List Reveal} (h:(checkB g).2=0) (h6:¬ 60<rs.length) {k:Nat} (hk:k<rs.length) (hb:badRev g rs k=true):openE g rs=40:=by
 unfold openE; rw [if_pos h,if_neg h6,if_pos]; simp only [List.any_eq_true,List.mem_range]; exact ⟨k,hk,hb⟩
theorem openE_circ {g:List Ty} {rs:List Reveal} (h:(checkB g).2=0) (h6:¬ 60<rs.length) (hb:∀ k,k<rs.length->badRev g rs k=false):openE g rs=if circB (succC g (classesOf g) rs) g.length (classesOf g) then 40 else 0:=by
 unfold openE;rw [if_pos h,if_neg h6,if_neg];simp only [List.any_eq_true,List.mem_range,not_exists,not_and,Bool.not_eq_true];exact hb
theorem rev_in {g:List Ty} {rs:List Reveal} {k:Nat} (h:badRev g rs k=false):0<=(nth rs k).type/\(nth rs k).type<g.length:=by
 unfold badRev at h;simp only [Bool.or_eq_false_iff,Bool.not_eq_false'] at h;exact hasI_iff.1 h.1.1.1.2
structure OpInv (w W2 wr:World) (mb mf:Nat) (rs:List Reveal) (kb kf:Nat) (m:List (BA × Value)):Prop where
 blk:∀ j,j<W2.heap.size->j≠mb->j≠mf->wr.heap[j]? = W2.heap[j]?
 ext:Ext w wr
 size:W2.heap.size<=wr.heap.size
 ne:mb≠mf
 lob:w.heap.size<=mb/\mb<W2.heap.size
 lof:w.heap.size<=mf/\mf<W2.heap.size
 maps:∀ a v,W2.cell? a=some v->a.block≠mb/\a.block≠mf
 at_:MapAt Value.string wr mb m
 rows:∀ name,wr.ownsRow W2.heap.size 3 1 ((alook name m).getD (.slice none 0 0)) (byN rs kb name).length ((numsOf (byN rs kb name)).map (Value.int .i64))
 dis:∀ n1 n2 b,n1≠n2->((alook n1 m).getD (.slice none 0 0)).ownBlock=some b->((alook n2 m).getD (.slice none 0 0)).ownBlock≠some b
 full:∃ m,MapAt Value.string wr mf m/\∀ name,(alook name m).getD (.bool false)=.bool (fullB rs kf name)
theorem OpInv.le {w W2 wr:World} {mb mf:Nat} {rs:List Reveal} {kb kf:Nat} {m:List (BA × Value)} (h:OpInv w W2 wr mb mf rs kb kf m):CellLe W2 wr:=fun a v hc =>
 (World.cell?_of_block (w:=W2) (w':=wr) (h.blk a.block (cell_lt hc) (h.maps a v hc).1 (h.maps a v hc).2)).trans hc
theorem OpInv.grow {w W2 wr wr':World} {mb mf:Nat} {rs:List Reveal} {kb kf:Nat} {m:List (BA × Value)} (h:OpInv w W2 wr mb mf rs kb kf m) (hE:Ext wr wr'):OpInv w W2 wr' mb mf rs kb kf m:=by
 obtain ⟨m',h4,h5⟩:=h.full;exact ⟨fun j hj h1 h2=>(hE.block j (Nat.lt_of_lt_of_le hj h.size)).trans (h.blk j hj h1 h2),h.ext.trans hE,Nat.le_trans h.size hE.size,h.ne,h.lob,h.lof,h.maps,h.at_.ext hE,fun name=>owns_ext (h.rows name) hE,h.dis,⟨m',h4.ext hE,h5⟩⟩
theorem cellLe_map {w w':World} {b:Nat} {P:List (BA × Value)->Prop} (h:∃ m,MapAt Value.string w b m/\P m) (hg:w.grownBy w' (some b)):CellLe w w':=fun a v hc=>by
 obtain ⟨m,⟨es,clock,hb,_⟩,_⟩:=h;refine (World.cell?_of_block (w:=w) (w':=w') (hg.block a.block (cell_lt hc) (fun e=>?_))).trans hc;have e:=Option.some.inj e;unfold World.cell? at hc;rw [e,hb] at hc;simp at hc
theorem OpInv.setFull {w W2 wr:World} {mb mf:Nat} {rs:List Reveal} {k:Nat} {m:List (BA × Value)} (h:OpInv w W2 wr mb mf rs k k m) (b:Bool) (hb:b=(fullB rs k (nth rs k).name||(nth rs k).full)) :
  ∃ wr',(Instr.mapUpdate 143 (.map (some mf)) (.string (nth rs k).name) (.bool b)).run Tryz.prog wr=.ok () wr'/\OpInv w W2 wr' mb mf rs k (k+1) m/\wr.grownBy wr' (some mf):=by
 obtain ⟨m',h4,h5⟩:=h.full;obtain ⟨wr',hrun,hM,hg,hs⟩:=h4.update Tryz.underlying143 keyString (nth rs k).name (.bool b);refine ⟨wr',hrun,⟨fun j hj h1 h2=>(hg.block j (Nat.lt_of_lt_of_le hj h.size) (fun e=>h2 (Option.some.inj e))).trans (h.blk j hj h1 h2),h.ext.grown hg h.ext.size (fun q e=>by cases e; exact h.lof.1),by rw [hs]; exact h.size,h.ne,h.lob,h.lof,h.maps,
  h.at_.same (hg.block mb h.at_.lt (fun e=>h.ne (Option.some.inj e))),fun name=>(h.rows name).kept hg ?_,h.dis,⟨_,hM,fun name=>?_⟩⟩,hg⟩
 ·right;intro e;have:=((h.rows name).lt mf e).1;have:=h.lof.2;omega
 ·rw [alook_aput,fullB_succ];by_cases hn:name=(nth rs k).name
  ·rw [if_pos hn,hb,<- hn]; simp
  ·rw [if_neg hn,h5 name,beq_eq_false_iff_ne.2 (fun e=>hn e.symm),Bool.and_false,Bool.or_false]
theorem OpInv.lookFull {w W2 wr:World} {mb mf:Nat} {rs:List Reveal} {kb kf:Nat} {m:List (BA × Value)} (h:OpInv w W2 wr mb mf rs kb kf m) (name:BA) :
  (Instr.lookup 143 (.map (some mf)) (.string name) false).run Tryz.prog wr=.ok (.bool (fullB rs kf name)) wr:=by
 obtain ⟨m',h4,h5⟩:=h.full;rw [h4.lookup Tryz.underlying143 keyString name zero4,h5]
theorem numsOf_snoc (l:List Nat) (k:Nat):numsOf (l++[k])=numsOf l++[(k:Int)]:=by unfold numsOf; simp
theorem OpInv.setBy {w W2 wr w1:World} {mb mf:Nat} {rs:List Reveal} {k kf:Nat} {m:List (BA × Value)} {v':Value} (h:OpInv w W2 wr mb mf rs k kf m)
  (hown:w1.ownsRow W2.heap.size 3 1 v' ((byN rs k (nth rs k).name).length+1) ((numsOf (byN rs k (nth rs k).name)).map (Value.int .i64)++[.int .i64 k]))
  (hg:wr.grownBy w1 ((alook (nth rs k).name m).getD (.slice none 0 0)).ownBlock) (hat:v'.ownBlock=((alook (nth rs k).name m).getD (.slice none 0 0)).ownBlock\/v'.ownBlock=some wr.heap.size) :
  ∃ w2,(Instr.mapUpdate 100 (.map (some mb)) (.string (nth rs k).name) v').run Tryz.prog w1=.ok () w2/\(∃ m',OpInv w W2 w2 mb mf rs (k+1) kf m')/\w1.grownBy w2 (some mb):=by
 have hrow:=h.rows (nth rs k).name;have hsz:=h.size;have hnb:some mb≠((alook (nth rs k).name m).getD (.slice none 0 0)).ownBlock:=fun e=>by have:=(hrow.lt mb e.symm).1; have:=h.lob.2; omega
 have hnf:some mf≠((alook (nth rs k).name m).getD (.slice none 0 0)).ownBlock:=fun e=>by have:=(hrow.lt mf e.symm).1; have:=h.lof.2; omega
 have hM1:MapAt Value.string w1 mb m:=h.at_.same (hg.block mb h.at_.lt hnb);obtain ⟨w2,hrun,hM,hg2,hs2⟩:=hM1.update Tryz.underlying100 keyString (nth rs k).name v';obtain ⟨mF,h4,h5⟩:=h.full;have hF1:MapAt Value.string w1 mf mF:=h4.same (hg.block mf h4.lt hnf);have hle1:∀ j,j<W2.heap.size->j≠mb->j≠mf->w1.heap[j]? = W2.heap[j]? := fun j hj h1 h2=>(hg.block j (Nat.lt_of_lt_of_le hj h.size) (fun e=>by have:=(hrow.lt j e.symm).1; omega)).trans (h.blk j hj h1 h2);have hext1:Ext w w1:=h.ext.grown hg h.ext.size (fun q e=>by have:=(hrow.lt q e).1; have:=h.lob; omega);have hbk:∀ name,((alook name (aput (nth rs k).name v' m)).getD (.slice none 0 0))=if name=(nth rs k).name then v' else (alook name m).getD (.slice none 0 0):=by
  intro name;rw [alook_aput];split <;> rfl
 refine ⟨w2,hrun,⟨_,⟨fun j hj h1 h2=>(hg2.block j (Nat.lt_of_lt_of_le hj (Nat.le_trans h.size hg.size)) (fun e=>h1 (Option.some.inj e))).trans (hle1 j hj h1 h2),hext1.grown hg2 hext1.size (fun q e=>by cases e; exact h.lob.1),by have:=hg.size; have:=hg2.size; omega,h.ne,h.lob,h.lof,h.maps,hM,fun name=>?_,fun n1 n2 b hn h1 h2=>?_,
  ⟨mF,hF1.same (hg2.block mf hF1.lt (fun e=>h.ne (Option.some.inj e).symm)),h5⟩⟩⟩,hg2⟩
 ·rw [hbk];by_cases hn:name=(nth rs k).name
  ·rw [if_pos hn,hn,byN_hit rs k _ (by simp),numsOf_snoc,List.map_append,List.length_append];refine hown.kept hg2 (Or.inr fun e=>?_);have:=(hown.lt mb e).1;have:=h.lob.2;omega
  ·rw [if_neg hn,byN_miss rs k _ (beq_eq_false_iff_ne.2 (fun e=>hn e.symm))];refine ((h.rows name).kept hg ?_).kept hg2 (Or.inr fun e=>?_)
   ·cases hv:((alook name m).getD (.slice none 0 0)).ownBlock with
    | none=>exact Or.inl rfl
    | some b =>
     right;intro e;exact h.dis name (nth rs k).name b hn hv e.symm
   ·have:=((h.rows name).lt mb e).1;have:=h.lob.2;omega
 ·rw [hbk] at h1 h2;have key:∀ n,n≠(nth rs k).name->∀ b,((alook n m).getD (.slice none 0 0)).ownBlock=some b->v'.ownBlock≠some b:=fun n hn b hb he=>by
   rcases hat with ha | ha
   ·rw [ha] at he;exact h.dis n (nth rs k).name b hn hb he
   ·rw [ha] at he;have:=((h.rows n).lt b hb).2;cases he;omega
  by_cases c1:n1=(nth rs k).name
  ·by_cases c2:n2=(nth rs k).name
   ·exact hn (c1.trans c2.symm)
   ·rw [if_pos c1] at h1;rw [if_neg c2] at h2;exact key n2 c2 b h2 h1
  ·rw [if_neg c1] at h1;by_cases c2:n2=(nth rs k).name
   ·rw [if_pos c2] at h2;exact key n1 c1 b h1 h2
   ·rw [if_neg c2] at h2;exact h.dis n1 n2 b hn h1 h2
theorem wp_append_own_at {P:Program} {o:Oper} {a:Act} {w:World} {K:Act->World->Prop} {Q:Exit->Act->World->Prop} (s x:Operand) (t:TypeId)
  (ho:o.op=.call { callee:=.builtin .append,args:=#[s,x],argTypes:=#[t,t] })
  (base:Nat) (e:TypeId) (i:TypeInfo) (z:Value) (size bytes:Nat) (ht:P.underlying t=some (.slice e)) (hi:P.info? e=some i) (hz:i.zero=some z)
  (hsize:i.size=size) (hby:i.bytes=bytes) (hzs:z.cells.size=size) (hsz:0<size)
  (v:Value) (n:Nat) (xs:List Value) (hs:a.eval s=v) (hown:w.ownsRow base e size v n xs)
  (ad:Addr) (m c:Nat) (news:List Value) (hx:a.eval x=.slice (some ad) m c) (hl:news.length=m*size) (hnews:∀ j u,news[j]? = some u->w.cell? (ad.add j)=some u) (h1:∀ u∈news,u.oneCell'=true)
  (h63:n+m<=maxLen) (hbytes:(n+m)*bytes<=140737488355328) (hbase:base<=w.heap.size)
  (h:∀ v' w',w'.ownsRow base e size v' (n+m) (xs++news)->w.grownBy w' v.ownBlock->(v'.ownBlock=v.ownBlock\/v'.ownBlock=some w.heap.size)->K (a.put o.dst v') w') :
  o.wp P a w K Q:=by
 obtain ⟨v',w',hr,h2,h3,h4,h5⟩:=run_append_own_at (P:=P) w base t o.type e i z size bytes ht hi hz hsize hby hzs hsz v n xs hown ad m c news hl hnews h1 h63 hbytes hbase;unfold Oper.wp execOp;simp only [ho,resolve,invoke,builtin,Sem.run_bind,Sem.run_pure,Result.andThen_ok,List.map_toArray,List.map_cons,List.map_nil,hs,hx,hr];exact h v' w' h2 h3 h5
end
section
open Go.RowKit Go.Proofs
end
end Go.Proofs.YtjffkeoajkhbmaaGreat
