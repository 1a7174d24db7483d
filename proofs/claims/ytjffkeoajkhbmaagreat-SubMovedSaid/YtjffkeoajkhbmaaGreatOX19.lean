/- The search of a shortest derivation, in plain Lean. Derive: its two maps, its boxes and its queue, while it searches. -/
import Derived.Test.YtjffkeoajkhbmaaGreatOX0
import Derived.Test.YtjffkeoajkhbmaaGreatOX8
import Derived.Test.YtjffkeoajkhbmaaGreatOX10
import Derived.Test.YtjffkeoajkhbmaaGreatOX11
import Derived.Test.YtjffkeoajkhbmaaGreatOX18
namespace Go.Proofs.YtjffkeoajkhbmaaGreat
set_option linter.unusedSimpArgs false
set_option linter.unusedVariables false
set_option maxRecDepth 100000
set_option maxHeartbeats 8000000
section
abbrev Disc:=List (Nat × Nat × Stp)
def metB (a:Nat) (D:Disc) (u:Nat):Bool:=u==a||D.any fun d=>d.1==u
def dvis (a x:Nat) (s:Disc × List Nat) (y:Stp):Disc × List Nat:=if metB a s.1 y.to_ then s else (s.1++[(y.to_,x,y)],s.2++[y.to_])
theorem dvis_met {a x:Nat} {D:Disc} {Q:List Nat} {y:Stp} (h:metB a D y.to_=true):dvis a x (D,Q) y=(D,Q):=by unfold dvis; rw [if_pos h]
theorem dvis_new {a x:Nat} {D:Disc} {Q:List Nat} {y:Stp} (h:metB a D y.to_=false):dvis a x (D,Q) y=(D++[(y.to_,x,y)],Q++[y.to_]):=by unfold dvis; rw [if_neg (by rw [h]; decide)]
def dstep (a:Nat) (st:Nat->List Stp) (s:Disc × List Nat):Disc × List Nat:=match s.2 with | []=>s | x :: q=>(st x).foldl (dvis a x) (s.1,q)
def diter (a:Nat) (st:Nat->List Stp):Nat->Disc × List Nat
 | 0=>([],[a])
 | k+1=>dstep a st (diter a st k)
def succS (st:Nat->List Stp) (x:Nat):List Nat:=(st x).map (·.to_)
def discN (a:Nat) (st:Nat->List Stp) (n:Nat):Disc:=(diter a st n).1
def back:Disc->Nat->List Stp
 | [],_=>[]
 | (u,x,s) :: R,t=>if t=u then s :: back R x else back R t
def Chain (st:Nat->List Stp) (a:Nat):List Stp->Nat->Prop
 | [],b=>a=b
 | s :: l,b=>s∈st a/\Chain st s.to_ l b
theorem Chain.snoc {st:Nat->List Stp} {b:Nat} {s:Stp} (hs:s∈st b):∀ {l:List Stp} {a:Nat},Chain st a l b->Chain st a (l++[s]) s.to_
 | [],a,h=>by
  have h:a=b:=h;subst h;exact ⟨hs,rfl⟩
 | _ :: _,a,h=>⟨h.1,Chain.snoc hs h.2⟩
theorem Chain.reach {st:Nat->List Stp} {b:Nat}:∀ {l:List Stp} {a:Nat},Chain st a l b->Reach (succS st) a b
 | [],a,h=>by
  have h:a=b:=h;subst h;exact Reach.refl
 | s :: _,a,h=>Reach.trans (Reach.one (List.mem_map.2 ⟨s,h.1,rfl⟩)) (Chain.reach h.2)
theorem chain_mem {st:Nat->List Stp} {b:Nat}:∀ {l:List Stp} {a:Nat},Chain st a l b->∀ s,s∈l->∃ x,Reach (succS st) a x/\s∈st x
 | [],_,_,s,hs=>by cases hs
 | y :: l,a,h,s,hs=>by
  rcases List.mem_cons.1 hs with rfl | hs
  ·exact ⟨a,Reach.refl,h.1⟩
  ·obtain ⟨x,h1,h2⟩:=chain_mem h.2 s hs;exact ⟨x,Reach.trans (Reach.one (List.mem_map.2 ⟨y,h.1,rfl⟩)) h1,h2⟩
def DSim (a:Nat) (D:Disc) (S:Nat):Prop:=∀ u,S.testBit u=metB a D u
theorem metB_snoc (a:Nat) (D:Disc) (d:Nat × Nat × Stp) (u:Nat):metB a (D++[d]) u=(metB a D u||d.1==u):=by
 unfold metB;simp [List.any_append,Bool.or_assoc]
theorem dvis_sim {a x:Nat} {D:Disc} {S:Nat} {Q:List Nat} (h:DSim a D S) (y:Stp):(visit (S,Q) y.to_).2=(dvis a x (D,Q) y).2/\DSim a (dvis a x (D,Q) y).1 (visit (S,Q) y.to_).1:=by
 unfold visit dvis;rw [show (S,Q).1=S from rfl,show (D,Q).1=D from rfl,h y.to_];cases hm:metB a D y.to_
 ·refine ⟨rfl,fun u=>?_⟩;simp only [Bool.false_eq_true,if_false,Nat.testBit_or,Nat.testBit_two_pow,metB_snoc,h u]
  congr 1
 ·exact ⟨rfl,h⟩
theorem dfold_sim {a x:Nat}:∀ (l:List Stp) {D:Disc} {S:Nat} {Q:List Nat},DSim a D S ->
  ((l.map (·.to_)).foldl visit (S,Q)).2=(l.foldl (dvis a x) (D,Q)).2/\DSim a (l.foldl (dvis a x) (D,Q)).1 ((l.map (·.to_)).foldl visit (S,Q)).1
 | [],_,_,_,h=>⟨rfl,h⟩
 | y :: l,D,S,Q,h=>by
  obtain ⟨h1,h2⟩:=dvis_sim (x:=x) (Q:=Q) h y;obtain ⟨S1,Q1,e⟩:∃ S1 Q1,visit (S,Q) y.to_=(S1,Q1):=⟨_,_,rfl⟩;obtain ⟨D1,Q2,e2⟩:∃ D1 Q2,dvis a x (D,Q) y=(D1,Q2):=⟨_,_,rfl⟩;rw [e,e2] at h1 h2;have h1:Q1=Q2:=h1;subst h1;simp only [List.map_cons,List.foldl_cons,e,e2];exact dfold_sim l h2
theorem diter_sim (a:Nat) (st:Nat->List Stp):∀ k,(biter (succS st) a k).2=(diter a st k).2/\DSim a (diter a st k).1 (biter (succS st) a k).1
 | 0=>⟨rfl,fun u=>by simp only [biter,diter,Nat.testBit_two_pow,metB,List.any_nil,Bool.or_false]; rw [Bool.eq_iff_iff,decide_eq_true_eq,beq_iff_eq]; exact eq_comm⟩
 | k+1=>by
  obtain ⟨h1,h2⟩:=diter_sim a st k;obtain ⟨S,Q,e⟩:∃ S Q,biter (succS st) a k=(S,Q):=⟨_,_,rfl⟩;obtain ⟨D,Q2,e2⟩:∃ D Q2,diter a st k=(D,Q2):=⟨_,_,rfl⟩;rw [e,e2] at h1 h2;have h1:Q=Q2:=h1;subst h1;simp only [biter,diter,e,e2,bstep,dstep];cases Q with
  | nil=>exact ⟨rfl,h2⟩
  | cons x q=>exact dfold_sim (st x) h2
theorem diter_left {n a:Nat} {st:Nat->List Stp} (ha:a<n) (hs:∀ x,x<n->∀ s,s∈st x->s.to_<n) {k:Nat} {D:Disc} {Q:List Nat} (he:diter a st k=(D,Q)) (hQ:Q≠[]):k+Q.length<=n/\∀ x,x∈Q->x<n:=by
 obtain ⟨h1,_⟩:=diter_sim a st k;rw [he] at h1;have hs':∀ x,x<n->∀ u,u∈succS st x->u<n:=fun x hx u hu=>by
  obtain ⟨s,hm,rfl⟩:=List.mem_map.1 hu;exact hs x hx s hm
 exact biter_left (S:=(biter (succS st) a k).1) ha hs' (Prod.ext rfl h1) hQ
theorem diter_all {n a:Nat} {st:Nat->List Stp} (ha:a<n) (hs:∀ x,x<n->∀ s,s∈st x->s.to_<n):(diter a st n).2=[]:=by
 cases hq:(diter a st n).2 with
 | nil=>rfl
 | cons x q =>
  have:=diter_left ha hs (k:=n) (D:=(diter a st n).1) (Q:=x :: q) (by rw [<- hq]) (by simp);simp at this; omega
theorem diter_stays {a:Nat} {st:Nat->List Stp} {D:Disc}:∀ (d k:Nat),diter a st k=(D,[])->diter a st (k+d)=(D,[])
 | 0,_,h=>h
 | d+1,k,h=>by
  have:=diter_stays d k h;show dstep a st (diter a st (k+d))=_
  rw [this]; rfl
theorem diter_done {n a:Nat} {st:Nat->List Stp} (ha:a<n) (hs:∀ x,x<n->∀ s,s∈st x->s.to_<n) {k:Nat} {D:Disc} (he:diter a st k=(D,[])):D=discN a st n:=by
 have h1:=diter_stays n k he;have h2:=diter_stays (D:=discN a st n) k n (by rw [<- diter_all ha hs]; rfl);rw [Nat.add_comm] at h2;rw [h1] at h2;exact congrArg Prod.fst h2
theorem dfold_prefix {a x:Nat}:∀ (l:List Stp) (D:Disc) (Q:List Nat),D <+: (l.foldl (dvis a x) (D,Q)).1
 | [],_,_=>List.prefix_refl _
 | y :: l,D,Q=>by
  rw [List.foldl_cons];unfold dvis;split
  ·exact dfold_prefix l D Q
  ·exact (List.prefix_append _ _).trans (dfold_prefix l _ _)
theorem dfold_prefix2 {a x:Nat} {l l':List Stp} (h:l <+: l') (D:Disc) (Q:List Nat):(l.foldl (dvis a x) (D,Q)).1 <+: (l'.foldl (dvis a x) (D,Q)).1:=by
 obtain ⟨r,rfl⟩:=h;rw [List.foldl_append];exact dfold_prefix r _ _
theorem diter_mono {a:Nat} {st:Nat->List Stp} (k:Nat):∀ d,(diter a st k).1 <+: (diter a st (k+d)).1
 | 0=>List.prefix_refl _
 | d+1=>by
  refine (diter_mono k d).trans ?_;show _ <+: (dstep a st (diter a st (k+d))).1
  obtain ⟨D,Q,e⟩:∃ D Q,diter a st (k+d)=(D,Q):=⟨_,_,rfl⟩;rw [e];cases Q with
  | nil=>exact List.prefix_refl _
  | cons x q=>exact dfold_prefix (st x) D q
theorem dlook_prefix {n a:Nat} {st:Nat->List Stp} (ha:a<n) (hs:∀ x,x<n->∀ s,s∈st x->s.to_<n) {k x:Nat} {D:Disc} {q:List Nat} (he:diter a st k=(D,x :: q)) {l:List Stp} (hl:l <+: st x) :
  (l.foldl (dvis a x) (D,q)).1 <+: discN a st n:=by
 have h1:=diter_left ha hs he (by simp);simp at h1;have h2:=dfold_prefix2 (a:=a) (x:=x) hl D q;have h3:(diter a st (k+1)).1=((st x).foldl (dvis a x) (D,q)).1:=by
  show (dstep a st (diter a st k)).1=_
  rw [he]; rfl
 rw [<- h3] at h2;have h4:=diter_mono (a:=a) (st:=st) (k+1) (n-(k+1));rw [show k+1+(n-(k+1))=n by omega] at h4;exact h2.trans h4
def GoodR (a:Nat) (st:Nat->List Stp):Disc->Prop
 | []=>True
 | (u,x,s) :: R=>u≠a/\(∀ d,d∈R->d.1≠u)/\(x=a\/∃ d,d∈R/\d.1=x)/\s∈st x/\s.to_=u/\GoodR a st R
theorem GoodR.tail {a:Nat} {st:Nat->List Stp}:∀ {E R:Disc},GoodR a st (E++R)->GoodR a st R
 | [],_,h=>h
 | (_,_,_) :: _,_,h=>GoodR.tail h.2.2.2.2.2
theorem back_self {a:Nat} {st:Nat->List Stp}:∀ {R:Disc},GoodR a st R->back R a=[]
 | [],_=>rfl
 | (u,x,s) :: R,h=>by
  unfold back;rw [if_neg (fun e=>h.1 e.symm)];exact back_self h.2.2.2.2.2
theorem back_tail {a:Nat} {st:Nat->List Stp} {R:Disc} {t:Nat} (ht:t=a\/∃ d,d∈R/\d.1=t):∀ {E:Disc},GoodR a st (E++R)->back (E++R) t=back R t
 | [],_=>rfl
 | (u,x,s) :: E,h=>by
  have hne:¬ t=u:=by
   intro e;subst e;rcases ht with ht | ⟨d,hd,he⟩
   ·exact h.1 ht
   ·exact h.2.1 d (List.mem_append_right _ hd) he
  have e0:back ((u,x,s) :: (E++R)) t=back (E++R) t:=by
   conv=>lhs; unfold back
   exact if_neg hne
  exact e0.trans (back_tail ht h.2.2.2.2.2)
theorem back_chain {a:Nat} {st:Nat->List Stp}:∀ {R:Disc} {t:Nat},GoodR a st R->(t=a\/∃ d,d∈R/\d.1=t)->Chain st a (back R t).reverse t
 | [],t,_,ht=>by
  rcases ht with ht | ⟨d,hd,_⟩
  ·exact ht.symm
  ·cases hd
 | (u,x,s) :: R,t,h,ht=>by
  unfold back;by_cases e:t=u
  ·rw [if_pos e,List.reverse_cons];have:=Chain.snoc (h.2.2.2.1) (back_chain h.2.2.2.2.2 h.2.2.1);rw [e,<- h.2.2.2.2.1];exact this
  ·rw [if_neg e];refine back_chain h.2.2.2.2.2 (ht.imp id ?_);rintro ⟨d,hd,he⟩;rcases List.mem_cons.1 hd with rfl | hd
   ·exact absurd he.symm e
   ·exact ⟨d,hd,he⟩
theorem metB_iff (a:Nat) (D:Disc) (u:Nat):metB a D u=true↔(u=a\/∃ d,d∈D/\d.1=u):=by
 unfold metB;simp only [Bool.or_eq_true,beq_iff_eq,List.any_eq_true]
theorem metB_prefix {a:Nat} {D D':Disc} (h:D <+: D') {u:Nat} (hm:metB a D u=true):metB a D' u=true:=by
 rw [metB_iff] at hm ⊢;exact hm.imp id fun ⟨d,hd,e⟩=>⟨d,h.subset hd,e⟩
def dep (D:Disc) (t:Nat):Nat:=(back D.reverse t).length
structure DInv (a:Nat) (st:Nat->List Stp) (D:Disc) (P Q:List Nat):Prop where
 good:GoodR a st D.reverse
 mem:∀ u,metB a D u=true↔u∈P++Q
 srt:(P++Q).Pairwise fun u v=>dep D u<=dep D v
 cls:∀ x,x∈P->∀ s,s∈st x->s.to_∈P++Q/\dep D s.to_<=dep D x+1
theorem good_snoc {a x:Nat} {st:Nat->List Stp} {D:Disc} {y:Stp} (h:GoodR a st D.reverse) (hm:metB a D y.to_=false) (hx:metB a D x=true) (hy:y∈st x):GoodR a st (D++[(y.to_,x,y)]).reverse:=by
 rw [List.reverse_append];refine ⟨fun e=>?_,fun d hd e=>?_,?_,hy,rfl,h⟩
 ·rw [(metB_iff a D _).2 (Or.inl e)] at hm; cases hm
 ·rw [(metB_iff a D _).2 (Or.inr ⟨d,by simpa using hd,e⟩)] at hm; cases hm
 ·rcases (metB_iff a D x).1 hx with e | ⟨d,hd,e⟩
  ·exact Or.inl e
  ·exact Or.inr ⟨d,by simpa using hd,e⟩
theorem dep_old {a x:Nat} {st:Nat->List Stp} {D:Disc} {y:Stp} (h:GoodR a st (D++[(y.to_,x,y)]).reverse) {u:Nat} (hu:metB a D u=true):dep (D++[(y.to_,x,y)]) u=dep D u:=by
 unfold dep;rw [List.reverse_append] at h ⊢;rw [back_tail (E:=[(y.to_,x,y)].reverse) (st:=st) (a:=a) _ h];rcases (metB_iff a D u).1 hu with e | ⟨d,hd,e⟩
 ·exact Or.inl e
 ·exact Or.inr ⟨d,by simpa using hd,e⟩
theorem dep_new (x:Nat) (D:Disc) (y:Stp):dep (D++[(y.to_,x,y)]) y.to_=dep D x+1:=by
 unfold dep;rw [List.reverse_append];simp [back]
theorem dvis_inv {a x:Nat} {st:Nat->List Stp} {D:Disc} {P Q:List Nat} {y:Stp} (h:DInv a st D P Q) (hx:x∈P++Q) (hy:y∈st x) (hmax:∀ u,u∈P++Q->dep D u<=dep D x+1) :
  DInv a st (dvis a x (D,Q) y).1 P (dvis a x (D,Q) y).2/\(∀ u,u∈P++Q->u∈P++(dvis a x (D,Q) y).2/\dep (dvis a x (D,Q) y).1 u=dep D u) /\
   (∀ u,u∈P++(dvis a x (D,Q) y).2->dep (dvis a x (D,Q) y).1 u<=dep (dvis a x (D,Q) y).1 x+1)/\y.to_∈P++(dvis a x (D,Q) y).2:=by
 unfold dvis;rw [show (D,Q).1=D from rfl,show (D,Q).2=Q from rfl];cases hm:metB a D y.to_
 ·simp only [Bool.false_eq_true,if_false];have hg:=good_snoc h.good hm ((h.mem x).2 hx) hy;have hold:∀ u,u∈P++Q->dep (D++[(y.to_,x,y)]) u=dep D u:=fun u hu=>dep_old hg ((h.mem u).2 hu);have hnew:=dep_new x D y;refine ⟨⟨hg,fun u=>?_,?_,fun z hz s hs=>?_⟩,fun u hu=>⟨?_,hold u hu⟩,fun u hu=>?_,?_⟩
  ·rw [metB_snoc,Bool.or_eq_true,h.mem u,<- List.append_assoc,List.mem_append (t:=[y.to_]),List.mem_singleton];simp only [beq_iff_eq];exact ⟨fun e=>e.imp id Eq.symm,fun e=>e.imp id Eq.symm⟩
  ·rw [<- List.append_assoc,List.pairwise_append];refine ⟨h.srt.imp_of_mem (fun {u v} hu hv huv=>by rw [hold u hu,hold v hv]; exact huv),by simp,fun u hu v hv=>?_⟩;rw [List.mem_singleton] at hv;rw [hv,hnew,hold u hu];exact hmax u hu
  ·have:=h.cls z hz s hs;rw [hold z (List.mem_append_left _ hz),hold _ this.1];exact ⟨by rw [<- List.append_assoc]; exact List.mem_append_left _ this.1,this.2⟩
  ·rw [<- List.append_assoc]; exact List.mem_append_left _ hu
  ·rw [<- List.append_assoc] at hu;rw [hold x hx];rcases List.mem_append.1 hu with hu | hu
   ·rw [hold u hu]; exact hmax u hu
   ·rw [List.mem_singleton] at hu;rw [hu,hnew]; exact Nat.le_refl _
  ·simp
 ·exact ⟨h,fun u hu=>⟨hu,rfl⟩,hmax,(h.mem _).1 hm⟩
theorem dfold_inv {a x:Nat} {st:Nat->List Stp} {P:List Nat}:∀ (l:List Stp) {D:Disc} {Q:List Nat},DInv a st D P Q->x∈P++Q->(∀ y,y∈l->y∈st x)->(∀ u,u∈P++Q->dep D u<=dep D x+1) ->
  DInv a st (l.foldl (dvis a x) (D,Q)).1 P (l.foldl (dvis a x) (D,Q)).2/\(∀ u,u∈P++Q->u∈P++(l.foldl (dvis a x) (D,Q)).2/\dep (l.foldl (dvis a x) (D,Q)).1 u=dep D u) /\
   (∀ u,u∈P++(l.foldl (dvis a x) (D,Q)).2->dep (l.foldl (dvis a x) (D,Q)).1 u<=dep (l.foldl (dvis a x) (D,Q)).1 x+1)/\∀ y,y∈l->y.to_∈P++(l.foldl (dvis a x) (D,Q)).2
 | [],D,Q,h,_,_,hmax=>⟨h,fun u hu=>⟨hu,rfl⟩,hmax,fun y hy=>by cases hy⟩
 | y :: l,D,Q,h,hx,hl,hmax=>by
  obtain ⟨h1,h2,h3,h4⟩:=dvis_inv h hx (hl y (List.mem_cons_self ..)) hmax;obtain ⟨D1,Q1,e⟩:∃ D1 Q1,dvis a x (D,Q) y=(D1,Q1):=⟨_,_,rfl⟩;rw [e] at h1 h2 h3 h4;simp only [List.foldl_cons,e];obtain ⟨k1,k2,k3,k4⟩:=dfold_inv l h1 (h2 x hx).1 (fun z hz=>hl z (List.mem_cons_of_mem _ hz)) h3;refine ⟨k1,fun u hu=>⟨(k2 u (h2 u hu).1).1,(k2 u (h2 u hu).1).2.trans (h2 u hu).2⟩,k3,fun z hz=>?_⟩;rcases List.mem_cons.1 hz with rfl | hz
  ·exact (k2 _ h4).1
  ·exact k4 z hz
theorem diter_inv (a:Nat) (st:Nat->List Stp):∀ k,∃ P,DInv a st (diter a st k).1 P (diter a st k).2/\∀ q Q,(diter a st k).2=q :: Q->∀ u,u∈P++(diter a st k).2->dep (diter a st k).1 u<=dep (diter a st k).1 q+1
 | 0=>by
  refine ⟨[],⟨trivial,fun u=>by simp [diter,metB],by simp [diter],fun x hx=>by cases hx⟩,fun q Q _ u _=>?_⟩;simp [dep,diter,back]
 | k+1=>by
  obtain ⟨P,h,hg⟩:=diter_inv a st k;obtain ⟨D,Q,e⟩:∃ D Q,diter a st k=(D,Q):=⟨_,_,rfl⟩;rw [e] at h hg;have e1:diter a st (k+1)=dstep a st (D,Q):=by rw [<- e]; rfl
  rw [e1];cases Q with
  | nil=>exact ⟨P,h,fun q Q hq=>by cases hq⟩
  | cons x q =>
   have hx:x∈P++x :: q:=by simp
   have h':DInv a st D (P++[x]++q) []->True:=fun _=>trivial;have hge:∀ u,u∈P++[x]++q->u∈P++x :: q:=fun u hu=>by simpa [List.append_assoc] using hu
   have hge':∀ u,u∈P++x :: q->u∈P++[x]++q:=fun u hu=>by simpa [List.append_assoc] using hu
   have key:∀ (l:List Stp),(∀ y,y∈l->y∈st x)->∃ R,(l.foldl (dvis a x) (D,q)).2=q++R/\(l.foldl (dvis a x) (D,x :: q)).2=x :: (q++R)/\(l.foldl (dvis a x) (D,q)).1=(l.foldl (dvis a x) (D,x :: q)).1:=by
    intro l;have gen:∀ (l:List Stp) (D:Disc) (q:List Nat),∃ R,(l.foldl (dvis a x) (D,q)).2=q++R/\(l.foldl (dvis a x) (D,x :: q)).2=x :: (q++R)/\(l.foldl (dvis a x) (D,q)).1=(l.foldl (dvis a x) (D,x :: q)).1:=by
     intro l
     induction l with
     | nil=>intro D q; exact ⟨[],by simp,by simp,rfl⟩
     | cons y l ih =>
      intro D q;simp only [List.foldl_cons];cases hm:metB a D y.to_
      ·rw [dvis_new hm,dvis_new hm];obtain ⟨R,r1,r2,r3⟩:=ih (D++[(y.to_,x,y)]) (q++[y.to_]);refine ⟨y.to_ :: R,?_,?_,?_⟩
       ·simpa [List.append_assoc] using r1
       ·simpa [List.append_assoc] using r2
       ·simpa using r3
      ·rw [dvis_met hm,dvis_met hm];exact ih D q
    exact fun _=>gen l D q
   obtain ⟨R,r1,r2,r3⟩:=key (st x) (fun y hy=>hy);obtain ⟨k1,k2,k3,k4⟩:=dfold_inv (st x) h hx (fun y hy=>hy) (hg x q rfl);rw [r2,<- r3] at k1 k3;rw [r2] at k4;have k2':∀ u,u∈P++x :: q->dep ((st x).foldl (dvis a x) (D,q)).1 u=dep D u:=fun u hu=>by rw [r3]; exact (k2 u hu).2
   have e2:(dstep a st (D,x :: q))=(st x).foldl (dvis a x) (D,q):=rfl;rw [e2];obtain ⟨D1,Q1,e3⟩:∃ D1 Q1,(st x).foldl (dvis a x) (D,q)=(D1,Q1):=⟨_,_,rfl⟩;rw [e3] at r1 k1 k3 k2' ⊢;have r1:Q1=q++R:=r1;subst r1;have hP:P++x :: (q++R)=P++[x]++(q++R):=by simp [List.append_assoc]
   refine ⟨P++[x],⟨k1.good,fun u=>by rw [<- hP]; exact k1.mem u,by rw [<- hP]; exact k1.srt,fun z hz s hs=>?_⟩,fun v Q hv u hu=>?_⟩
   ·rw [<- hP];rcases List.mem_append.1 hz with hz | hz
    ·exact k1.cls z hz s hs
    ·rw [List.mem_singleton] at hz;subst hz;exact ⟨k4 s hs,k3 _ (k4 s hs)⟩
   ·rw [<- hP] at hu;have h1:=k3 u hu;have hv:(q++R)=v :: Q:=hv;have h2:=k1.srt;rw [hv] at h2;have h3:=(List.pairwise_append.1 h2).2.1;have h4:dep D1 x<=dep D1 v:=(List.pairwise_cons.1 h3).1 v (List.mem_cons_self ..);show dep D1 u<=dep D1 v+1
    have h1:dep D1 u<=dep D1 x+1:=h1;omega
structure DDone (a:Nat) (st:Nat->List Stp) (D:Disc):Prop where
 good:GoodR a st D.reverse
 all:∀ u,metB a D u=true↔Reach (succS st) a u
 far:∀ l b,Chain st a l b->dep D b<=l.length
theorem discN_done {n a:Nat} {st:Nat->List Stp} (ha:a<n) (hs:∀ x,x<n->∀ s,s∈st x->s.to_<n):DDone a st (discN a st n):=by
 obtain ⟨P,h,_⟩:=diter_inv a st n;rw [diter_all ha hs,show (diter a st n).1=discN a st n from rfl] at h;have hmem:=h.mem;have hcls:=h.cls;simp only [List.append_nil] at hmem hcls;have haP:a∈P:=(hmem a).1 ((metB_iff _ _ _).2 (Or.inl rfl));have h0:dep (discN a st n) a=0:=by unfold dep; rw [back_self h.good]; rfl
 have hch:∀ (l:List Stp) (x b:Nat),x∈P->Chain st x l b->b∈P/\dep (discN a st n) b<=dep (discN a st n) x+l.length:=by
  intro l
  induction l with
  | nil=>intro x b hx e; have e:x=b:=e; subst e; exact ⟨hx,by simp⟩
  | cons s l ih =>
   intro x b hx hc;have h1:=hcls x hx s hc.1;have h2:=ih s.to_ b h1.1 hc.2;refine ⟨h2.1,?_⟩;have:dep (discN a st n) s.to_<=dep (discN a st n) x+1:=h1.2;simp only [List.length_cons]; omega
 refine ⟨h.good,fun u=>⟨fun hm=>?_,fun hr=>?_⟩,fun l b hc=>?_⟩
 ·exact (back_chain h.good (by rcases (metB_iff _ _ _).1 hm with e | ⟨d,hd,e⟩; exact Or.inl e; exact Or.inr ⟨d,by simpa using hd,e⟩)).reach
 ·have key:∀ v,Reach (succS st) a v->v∈P:=fun v hv=>by
   induction hv with
   | refl=>exact haP
   | step _ hc ih =>
    obtain ⟨s,hs',rfl⟩:=List.mem_map.1 hc;exact (hcls _ ih s hs').1
  exact (hmem u).2 (key u hr)
 ·have:=(hch l a b haP hc).2;omega
def deriveL (a:Nat) (st:Nat->List Stp) (n b:Nat):List Stp:=(back (discN a st n).reverse b).reverse
def deriveB (a:Nat) (st:Nat->List Stp) (n b:Nat):Bool:=metB a (discN a st n) b
theorem good_entry {a:Nat} {st:Nat->List Stp}:∀ {R:Disc},GoodR a st R->∀ d,d∈R->back R d.1=d.2.2 :: back R d.2.1/\(d.2.1=a\/∃ e,e∈R/\e.1=d.2.1)
 | [],_,d,hd=>by cases hd
 | (u,x,s) :: R,h,d,hd=>by
  rcases List.mem_cons.1 hd with rfl | hd
  ·have e1:=back_tail (E:=[(u,x,s)]) (R:=R) (t:=x) (st:=st) h.2.2.1 h;refine ⟨?_,h.2.2.1.imp id fun ⟨d,hd,e⟩=>⟨d,List.mem_cons_of_mem _ hd,e⟩⟩;show back ((u,x,s) :: R) u=s :: back ([(u,x,s)]++R) x
   rw [e1]
   conv=>lhs; unfold back
   exact if_pos rfl
  ·obtain ⟨h1,h2⟩:=good_entry h.2.2.2.2.2 d hd;have e1:=back_tail (E:=[(u,x,s)]) (R:=R) (t:=d.1) (st:=st) (Or.inr ⟨d,hd,rfl⟩) h;have e2:=back_tail (E:=[(u,x,s)]) (R:=R) (t:=d.2.1) (st:=st) h2 h;refine ⟨?_,h2.imp id fun ⟨d,hd,e⟩=>⟨d,List.mem_cons_of_mem _ hd,e⟩⟩;show back ([(u,x,s)]++R) d.1=d.2.2 :: back ([(u,x,s)]++R) d.2.1
   rw [e1,e2,h1]
theorem back_none:∀ {R:Disc} {t:Nat},(∀ d,d∈R->d.1≠t)->back R t=[]
 | [],_,_=>rfl
 | (u,x,s) :: R,t,h=>by
  have e0:back ((u,x,s) :: R) t=back R t:=by
   conv=>lhs; unfold back
   exact if_neg fun e=>h (u,x,s) (List.mem_cons_self ..) e.symm
  rw [e0];exact back_none fun d hd=>h d (List.mem_cons_of_mem _ hd)
theorem back_len:∀ (R:Disc) (t:Nat),(back R t).length<=R.length
 | [],_=>Nat.le_refl _
 | (u,x,s) :: R,t=>by
  unfold back;split
  ·have:=back_len R x;simp only [List.length_cons]; omega
  ·have:=back_len R t;simp only [List.length_cons]; omega
theorem good_nodup {a:Nat} {st:Nat->List Stp}:∀ {R:Disc},GoodR a st R->(R.map (·.1)).Nodup
 | [],_=>List.nodup_nil
 | (u,x,s) :: R,h=>by
  rw [List.map_cons,List.nodup_cons];refine ⟨fun hm=>?_,good_nodup h.2.2.2.2.2⟩;obtain ⟨d,hd,e⟩:=List.mem_map.1 hm;exact h.2.1 d hd e
theorem reach_lt {n a:Nat} {succ:Nat->List Nat} (ha:a<n) (hs:∀ x,x<n->∀ u,u∈succ x->u<n) {u:Nat} (h:Reach succ a u):u<n:=by
 induction h with
 | refl=>exact ha
 | step _ hc ih=>exact hs _ ih _ hc
theorem disc_len {n a:Nat} {st:Nat->List Stp} (ha:a<n) (hs:∀ x,x<n->∀ s,s∈st x->s.to_<n):(discN a st n).length<=n:=by
 have hD:=discN_done ha hs;have h1:=good_nodup hD.good;have h2:=nodup_le (n:=n) h1 (fun x hx=>by
  obtain ⟨d,hd,rfl⟩:=List.mem_map.1 hx;refine reach_lt (succ:=succS st) ha (fun x hx u hu=>?_) ((hD.all d.1).1 ((metB_iff _ _ _).2 (Or.inr ⟨d,by simpa using hd,rfl⟩)));obtain ⟨s,hm,rfl⟩:=List.mem_map.1 hu;exact hs x hx s hm)
 simpa using h2
theorem derive_eq {n a b:Nat} {st:Nat->List Stp} (ha:a<n) (hs:∀ x,x<n->∀ s,s∈st x->s.to_<n) {D:Disc} (hp:D <+: discN a st n) (hm:metB a D b=deriveB a st n b) :
  GoodR a st D.reverse/\(back D.reverse b).reverse=deriveL a st n b/\D.length<=n:=by
 have hD:=(discN_done ha hs).good;obtain ⟨E,hE⟩:=hp;have hl:=disc_len ha hs;unfold deriveL;unfold deriveB at hm;rw [<- hE] at hD hm hl ⊢;rw [List.reverse_append] at hD ⊢;refine ⟨hD.tail,?_,by rw [List.length_append] at hl; omega⟩;cases hb:metB a D b
 ·rw [hb] at hm;have n1:∀ d,d∈D.reverse->d.1≠b:=fun d hd e=>by
   rw [(metB_iff a D b).2 (Or.inr ⟨d,by simpa using hd,e⟩)] at hb; cases hb
  have n2:∀ d,d∈E.reverse++D.reverse->d.1≠b:=fun d hd e=>by
   rw [(metB_iff a (D++E) b).2 (Or.inr ⟨d,by rw [<- List.reverse_append,List.mem_reverse] at hd; exact hd,e⟩)] at hm; cases hm
  rw [back_none n1,back_none n2]
 ·rw [back_tail (R:=D.reverse) (st:=st) (a:=a) _ hD];rcases (metB_iff a D b).1 hb with e | ⟨d,hd,e⟩
  ·exact Or.inl e
  ·exact Or.inr ⟨d,by simpa using hd,e⟩
end
section
open Go.RowKit Go.Proofs Go.Shelf
def MapI (W:World) (b:Nat) (F:Nat->Option Value):Prop:=∃ m:List (Int × Value),MapAt (Value.int .i64) W b m/\∀ u:Nat,alook (u:Int) m=F u
theorem MapI.lt {W:World} {b:Nat} {F:Nat->Option Value} (h:MapI W b F):b<W.heap.size:=by obtain ⟨m,h,_⟩:=h; exact h.lt
theorem MapI.same {W W':World} {b:Nat} {F:Nat->Option Value} (h:MapI W b F) (hs:W'.heap[b]? = W.heap[b]?):MapI W' b F:=by obtain ⟨m,h,k⟩:=h; exact ⟨m,h.same hs,k⟩
theorem MapI.ext {W W':World} {b:Nat} {F:Nat->Option Value} (h:MapI W b F) (hE:Ext W W'):MapI W' b F:=h.same (hE.block b h.lt)
theorem MapI.obj {W:World} {b:Nat} {F:Nat->Option Value} (h:MapI W b F):∃ o:Obj,W.heap[b]? = some o/\o.isCells=false:=by
 obtain ⟨m,⟨es,c,h,_⟩,_⟩:=h;exact ⟨_,h,rfl⟩
theorem MapI.ne {W:World} {b j:Nat} {F:Nat->Option Value} (h:MapI W b F) {cs:Array Value} {T:TypeId} {p:Nat × Nat} (hj:W.heap[j]? = some (.cells cs T p)):j≠b:=fun e=>by
 obtain ⟨o,ho,hc⟩:=h.obj;rw [e,ho] at hj; cases hj; cases hc
theorem MapI.made (W:World):MapI (W.alloc (.map #[] 0)) W.heap.size (fun _=>none):=⟨[],MapAt.made _ W,fun _=>rfl⟩
theorem MapI.lookup {W:World} {b:Nat} {F:Nat->Option Value} (h:MapI W b F) {t et:TypeId} (ht:Tryz.prog.underlying t=some (.map 3 et)) {z:Value} (hz:∀ w,(zeroValue et).run Tryz.prog w=.ok z w) (u:Nat) :
  (Instr.lookup t (.map (some b)) (.int .i64 u) false).run Tryz.prog W=.ok ((F u).getD z) W:=by
 obtain ⟨m,h,k⟩:=h;have:=h.lookup ht keyInt (u:Int) hz;rw [k] at this;exact this
theorem MapAt.lookupOk {κ:Type} [DecidableEq κ] {P:Program} {enc:κ->Value} {w:World} {b:Nat} {m:List (κ × Value)} (h:MapAt enc w b m) {t kt et:TypeId} (ht:P.underlying t=some (.map kt et)) (K:KeyLaw P kt enc) (k:κ) {z:Value}
  (hz:∀ w,(zeroValue et).run P w=.ok z w):(Instr.lookup t (.map (some b)) (enc k) true).run P w=.ok (.tuple #[(alook k m).getD z,.bool (alook k m).isSome]) w:=by
 obtain ⟨es,clock,hb,hm⟩:=h;obtain ⟨d,hd,hs⟩:=K.und;have hf:=findNow_eq hs k m es.toList 0 hm;have hl:=afind_look k m 0;have hg:(getObj b).run P w=.ok (.map es clock) w:=by simp [getObj,Sem.run,hb]
 simp only [Instr.lookup,run_underlying ht,Sem.run_bind,Result.andThen_ok,hg,Sem.run_pure,K.chk,Instr.findKey,run_underlying hd,hf];cases ha:afind k m 0 with
 | none =>
  rw [ha] at hl;rw [<- hl];simp [hz]
 | some p =>
  rw [ha] at hl;rw [<- hl];simp
theorem MapI.lookupOk {W:World} {b:Nat} {F:Nat->Option Value} (h:MapI W b F) {t et:TypeId} (ht:Tryz.prog.underlying t=some (.map 3 et)) {z:Value} (hz:∀ w,(zeroValue et).run Tryz.prog w=.ok z w) (u:Nat) :
  (Instr.lookup t (.map (some b)) (.int .i64 u) true).run Tryz.prog W=.ok (.tuple #[(F u).getD z,.bool (F u).isSome]) W:=by
 obtain ⟨m,h,k⟩:=h;have:=h.lookupOk ht keyInt (u:Int) hz;rw [k] at this;exact this
theorem MapI.update {W:World} {b:Nat} {F:Nat->Option Value} (h:MapI W b F) {t et:TypeId} (ht:Tryz.prog.underlying t=some (.map 3 et)) (u:Nat) (v:Value) :
  ∃ W',(Instr.mapUpdate t (.map (some b)) (.int .i64 u) v).run Tryz.prog W=.ok () W'/\MapI W' b (fun i=>if i=u then some v else F i)/\W.grownBy W' (some b)/\W'.heap.size=W.heap.size:=by
 obtain ⟨m,h,k⟩:=h;obtain ⟨W',h1,h2,h3,h4⟩:=h.update ht keyInt (u:Int) v;refine ⟨W',h1,⟨_,h2,fun i=>?_⟩,h3,h4⟩;rw [alook_aput,k];by_cases e:i=u
 ·subst e; simp
 ·rw [if_neg (by omega)]; exact (if_neg e).symm
theorem zero3 (w:World):(zeroValue 3).run Tryz.prog w=.ok (.int .i64 0) w:=by kernel_rfl
theorem zero93 (w:World):(zeroValue 93).run Tryz.prog w=.ok (.agg #[.int .u8 0,.int .i64 0,.int .i64 0]) w:=by kernel_rfl
def encV (s:Stp):Value:=.agg #[.int .u8 s.rule,.int .i64 s.to_,.int .i64 s.n]
def fromV (a:Nat) (D:Disc) (u:Nat):Option Value:=if u=a then some (.int .i64 (-1)) else (D.find? fun d=>d.1==u).map fun d=>.int .i64 d.2.1
def byV (D:Disc) (u:Nat):Option Value:=(D.find? fun d=>d.1==u).map fun d=>encV d.2.2
theorem find_any {D:Disc} {u:Nat}:(D.find? fun d=>d.1==u).isSome=D.any fun d=>d.1==u:=by
 induction D with
 | nil=>rfl
 | cons d D ih =>
  rw [List.find?_cons,List.any_cons];cases h:d.1==u
  ·simpa using ih
  ·rfl
theorem fromV_some (a:Nat) (D:Disc) (u:Nat):(fromV a D u).isSome=metB a D u:=by
 unfold fromV metB;by_cases h:u=a
 ·simp [h]
 ·rw [if_neg h,Option.isSome_map,find_any];simp [h]
theorem find_new {D:Disc} {x u:Nat} {y:Stp}:((D++[(y.to_,x,y)]).find? fun d=>d.1==u)=if (D.any fun d=>d.1==u) then (D.find? fun d=>d.1==u) else if u=y.to_ then some (y.to_,x,y) else none:=by
 rw [List.find?_append];have:=find_any (D:=D) (u:=u);cases h:D.find? fun d=>d.1==u
 ·rw [h] at this;rw [<- this];by_cases e:u=y.to_
  ·simp [e]
  ·have e':(y.to_==u)=false:=by simp; omega
   simp [e,e',List.find?_cons]
 ·rw [h] at this;rw [<- this];simp
theorem fromV_snoc {a x:Nat} {D:Disc} {y:Stp} (h:metB a D y.to_=false) (u:Nat):fromV a (D++[(y.to_,x,y)]) u=if u=y.to_ then some (.int .i64 x) else fromV a D u:=by
 unfold fromV;unfold metB at h;rw [Bool.or_eq_false_iff] at h;have hya:¬ y.to_=a:=by simpa using h.1
 by_cases e:u=y.to_
 ·subst e;rw [if_neg hya,if_pos rfl,find_new,h.2]; simp
 ·rw [if_neg e];by_cases ha:u=a
  ·rw [if_pos ha,if_pos ha]
  ·rw [if_neg ha,if_neg ha,find_new,if_neg e];have:=find_any (D:=D) (u:=u);cases hf:D.any fun d=>d.1==u
   ·rw [if_neg (by decide)];cases hq:D.find? fun d=>d.1==u with
    | none=>rfl
    | some d=>rw [hq,hf] at this; cases this
   ·simp
theorem byV_snoc {a x:Nat} {D:Disc} {y:Stp} (h:metB a D y.to_=false) (u:Nat):byV (D++[(y.to_,x,y)]) u=if u=y.to_ then some (encV y) else byV D u:=by
 unfold byV;unfold metB at h;rw [Bool.or_eq_false_iff] at h;by_cases e:u=y.to_
 ·subst e;rw [if_pos rfl,find_new,h.2]; simp
 ·rw [if_neg e,find_new,if_neg e];have:=find_any (D:=D) (u:=u);cases hf:D.any fun d=>d.1==u
  ·rw [if_neg (by decide)];cases hq:D.find? fun d=>d.1==u with
   | none=>rfl
   | some d=>rw [hq,hf] at this; cases this
  ·simp
theorem met_next {a t:Nat} {st:Nat->List Stp} {D:Disc} (hg:GoodR a st D.reverse) (ht:t≠a) (hm:metB a D t=true) :
  ∃ x s,fromV a D t=some (.int .i64 (x:Nat))/\byV D t=some (encV s)/\back D.reverse t=s :: back D.reverse x/\metB a D x=true:=by
 have h1:=find_any (D:=D) (u:=t);unfold metB at hm;rw [Bool.or_eq_true] at hm;have h2:=hm.resolve_left (by simpa using ht);rw [h2] at h1;cases hf:D.find? fun d=>d.1==t with
 | none=>rw [hf] at h1; cases h1
 | some d =>
  have hmem:=List.mem_of_find?_eq_some hf;have hd:d.1=t:=by simpa using List.find?_some hf
  obtain ⟨h3,h4⟩:=good_entry hg d (by simpa using hmem);rw [hd] at h3;refine ⟨d.2.1,d.2.2,?_,?_,h3,?_⟩
  ·unfold fromV; rw [if_neg ht,hf]; rfl
  ·unfold byV; rw [hf]; rfl
  ·rw [metB_iff];exact h4.imp id fun ⟨e,he,e1⟩=>⟨e,by simpa using he,e1⟩
structure DM (w:World) (b5 fm bm b10 b11 a b:Nat) (D:Disc) (W:World):Prop where
 bb:W.heap[b5]? = some (.cells #[.int .i64 b] 3 (0,0))
 frm:W.heap[b10]? = some (.cells #[.map (some fm)] 131 (0,0))
 byb:W.heap[b11]? = some (.cells #[.map (some bm)] 132 (0,0))
 mf:MapI W fm (fromV a D)
 mb:MapI W bm (byV D)
 ext:Ext w W
 lo:w.heap.size<=b5/\w.heap.size<=fm/\w.heap.size<=bm/\w.heap.size<=b10/\w.heap.size<=b11/\fm≠bm
theorem DM.grow {w W W':World} {b5 fm bm b10 b11 a b:Nat} {D:Disc} (h:DM w b5 fm bm b10 b11 a b D W) (hE:Ext W W'):DM w b5 fm bm b10 b11 a b D W' :=
 ⟨(hE.block _ (row_lt h.bb)).trans h.bb,(hE.block _ (row_lt h.frm)).trans h.frm,(hE.block _ (row_lt h.byb)).trans h.byb,h.mf.ext hE,h.mb.ext hE,h.ext.trans hE,h.lo⟩
theorem DM.other {w W W':World} {b5 fm bm b10 b11 a b r:Nat} {D:Disc} (h:DM w b5 fm bm b10 b11 a b D W) (hg:W.grownBy W' (some r)) (hr:w.heap.size<=r) (h5:r≠b5) (h10:r≠b10) (h11:r≠b11) (hf:r≠fm) (hm:r≠bm):DM w b5 fm bm b10 b11 a b D W' :=
 ⟨(hg.block _ (row_lt h.bb) (fun e=>h5 (Option.some.inj e).symm)).trans h.bb,(hg.block _ (row_lt h.frm) (fun e=>h10 (Option.some.inj e).symm)).trans h.frm,(hg.block _ (row_lt h.byb) (fun e=>h11 (Option.some.inj e).symm)).trans h.byb,
  h.mf.same (hg.block _ h.mf.lt (fun e=>hf (Option.some.inj e).symm)),h.mb.same (hg.block _ h.mb.lt (fun e=>hm (Option.some.inj e).symm)),h.ext.grown hg h.ext.size (fun q e=>by cases e; exact hr),h.lo⟩
theorem DM.put {w W:World} {b5 fm bm b10 b11 a b x:Nat} {D:Disc} {y:Stp} (h:DM w b5 fm bm b10 b11 a b D W) (hm:metB a D y.to_=false) :
  ∃ W1 W2,(Instr.mapUpdate 131 (.map (some fm)) (.int .i64 y.to_) (.int .i64 x)).run Tryz.prog W=.ok () W1/\(Instr.mapUpdate 132 (.map (some bm)) (.int .i64 y.to_) (encV y)).run Tryz.prog W1=.ok () W2 /\
   W.grownBy W1 (some fm)/\W1.grownBy W2 (some bm)/\W1.heap.size=W.heap.size/\W2.heap.size=W.heap.size/\DM w b5 fm bm b10 b11 a b (D++[(y.to_,x,y)]) W2/\(∃ o:Obj,W.heap[fm]? = some o/\o.isCells=false)/\(∃ o:Obj,W1.heap[bm]? = some o/\o.isCells=false):=by
 obtain ⟨W1,r1,m1,g1,s1⟩:=h.mf.update Tryz.underlying131 y.to_ (.int .i64 x);have hb1:MapI W1 bm (byV D):=h.mb.same (g1.block _ h.mb.lt (fun e=>h.lo.2.2.2.2.2 (Option.some.inj e).symm));obtain ⟨W2,r2,m2,g2,s2⟩:=hb1.update Tryz.underlying132 y.to_ (encV y);have key:∀ (c:Nat) (cs:Array Value) (T:TypeId),W.heap[c]? = some (.cells cs T (0,0))->W2.heap[c]? = some (.cells cs T (0,0)):=fun c cs T hc=>by
  have h1:=h.mf.ne hc;have h2:=h.mb.ne hc;have e1:=(g1.block c (row_lt hc) (fun e=>h1 (Option.some.inj e))).trans hc;exact (g2.block c (row_lt e1) (fun e=>h2 (Option.some.inj e))).trans e1
 refine ⟨W1,W2,r1,r2,g1,g2,s1,s2.trans s1,⟨key _ _ _ h.bb,key _ _ _ h.frm,key _ _ _ h.byb,?_,?_,?_,h.lo⟩,h.mf.obj,hb1.obj⟩
 ·have:=m1.same (g2.block _ m1.lt (fun e=>h.lo.2.2.2.2.2 (Option.some.inj e)));obtain ⟨m,k1,k2⟩:=this;exact ⟨m,k1,fun u=>by rw [k2,fromV_snoc hm]⟩
 ·obtain ⟨m,k1,k2⟩:=m2;exact ⟨m,k1,fun u=>by rw [k2,byV_snoc hm]⟩
 ·exact (h.ext.grown g1 h.ext.size (fun q e=>by cases e; exact h.lo.2.1)).grown g2 (by rw [s1]; exact h.ext.size) (fun q e=>by cases e; exact h.lo.2.2.1)
structure DI (w:World) (b5 fm bm b10 b11 b12 a b:Nat) (D:Disc) (Q:List Nat) (W:World):Prop where
 dm:DM w b5 fm bm b10 b11 a b D W
 todo:∃ v,W.heap[b12]? = some (.cells #[v] 35 (0,0))/\Tail W (b5+1) v Q
 lo:w.heap.size<=b12/\b12≠b5/\b12≠b10/\b12≠b11
theorem DI.grow {w W W':World} {b5 fm bm b10 b11 b12 a b:Nat} {D:Disc} {Q:List Nat} (h:DI w b5 fm bm b10 b11 b12 a b D Q W) (hE:Ext W W'):DI w b5 fm bm b10 b11 b12 a b D Q W':=by
 obtain ⟨v,h1,h2⟩:=h.todo;exact ⟨h.dm.grow hE,⟨v,(hE.block _ (row_lt h1)).trans h1,h2.ext hE⟩,h.lo⟩
theorem DM.walks {w W W':World} {b5 fm bm b10 b11 a b B:Nat} {D:Disc} {row:Option Nat} (h:DM w b5 fm bm b10 b11 a b D W) (hB:fm<B/\bm<B) (hw:w.heap.size<=B) (hg:W.grownBy W' row) (hr:∀ r,row=some r->B<=r/\∃ o:Obj,W.heap[r]? = some o/\o.isCells=false):DM w b5 fm bm b10 b11 a b D W':=by
 have key:∀ (b:Nat) (cs:Array Value) (T:TypeId) (p:Nat × Nat),W.heap[b]? = some (Obj.cells cs T p)->W'.heap[b]? = some (Obj.cells cs T p):=fun b cs T p hb=>(hg.block b (row_lt hb) (fun e=>by
  obtain ⟨_,o,ho,hc⟩:=hr b e.symm;rw [hb] at ho; cases ho; cases hc)).trans hb
 exact ⟨key _ _ _ _ h.bb,key _ _ _ _ h.frm,key _ _ _ _ h.byb,h.mf.same (hg.block _ h.mf.lt (fun e=>by have:=(hr _ e.symm).1; omega)),h.mb.same (hg.block _ h.mb.lt (fun e=>by have:=(hr _ e.symm).1; omega)),
  h.ext.grown hg h.ext.size (fun r e=>Nat.le_trans hw (hr r e).1),h.lo⟩
theorem DI.walks {w W W':World} {b5 fm bm b10 b11 b12 a b B:Nat} {D:Disc} {Q:List Nat} {row:Option Nat} (h:DI w b5 fm bm b10 b11 b12 a b D Q W) (hB:fm<B/\bm<B) (hw:w.heap.size<=B) (hg:W.grownBy W' row) (hr:∀ r,row=some r->B<=r/\∃ o:Obj,W.heap[r]? = some o/\o.isCells=false):DI w b5 fm bm b10 b11 b12 a b D Q W':=by
 have key:∀ (b:Nat) (cs:Array Value) (T:TypeId) (p:Nat × Nat),W.heap[b]? = some (Obj.cells cs T p)->W'.heap[b]? = some (Obj.cells cs T p):=fun b cs T p hb=>(hg.block b (row_lt hb) (fun e=>by
  obtain ⟨_,o,ho,hc⟩:=hr b e.symm;rw [hb] at ho; cases ho; cases hc)).trans hb
 obtain ⟨v,h1,h2⟩:=h.todo;refine ⟨h.dm.walks hB hw hg hr,⟨v,key _ _ _ _ h1,?_⟩,h.lo⟩;obtain ⟨g,off,cap,cur,rfl,k1,k2,k3,k4,k5,k6⟩:=h2;exact ⟨g,off,cap,cur,rfl,k1,key _ _ _ _ k2,k3,k4,k5,k6⟩
theorem DI.setQ {w W:World} {b5 fm bm b10 b11 b12 a b:Nat} {D:Disc} {Q Q':List Nat} {v:Value} (h:DI w b5 fm bm b10 b11 b12 a b D Q W) (hT:Tail W (b5+1) v Q'):DI w b5 fm bm b10 b11 b12 a b D Q' (W.setCell ⟨b12,0,none⟩ v):=by
 obtain ⟨v0,h1,-⟩:=h.todo;exact ⟨h.dm.other (grownBy_setB W b12 0 v) h.lo.1 h.lo.2.1 h.lo.2.2.1 h.lo.2.2.2 (h.dm.mf.ne h1) (h.dm.mb.ne h1),⟨v,set_row_self h1 _,hT.setOther h1 (by decide)⟩,h.lo⟩
theorem DI.rows {w W W':World} {b5 fm bm b10 b11 b12 a b:Nat} {D:Disc} {Q Q':List Nat} {g:Nat} {cur:Array Value} {v:Value} (h:DI w b5 fm bm b10 b11 b12 a b D Q W) (hg:W.grownBy W' (some g)) (hc:W.heap[g]? = some (.cells cur 3 (0,0))) (hgb:b5+1<=g)
  (hT:Tail W' (b5+1) v Q'):DI w b5 fm bm b10 b11 b12 a b D Q' (W'.setCell ⟨b12,0,none⟩ v):=by
 obtain ⟨v0,h1,-⟩:=h.todo;have k:∀ (b:Nat) (cs:Array Value) (T:TypeId),T≠3->W.heap[b]? = some (.cells cs T (0,0))->g≠b:=fun b cs T hT hb e=>by subst e; rw [hb] at hc; cases hc; exact hT rfl
 have h6:=(hg.block _ (row_lt h1) (fun e=>k _ _ _ (by decide) h1 (Option.some.inj e).symm)).trans h1;have hd:=h.dm.other hg (by have:=h.dm.lo.1; omega) (by omega) (k _ _ _ (by decide) h.dm.frm) (k _ _ _ (by decide) h.dm.byb) (h.dm.mf.ne hc) (h.dm.mb.ne hc);exact ⟨hd.other (grownBy_setB W' b12 0 v) h.lo.1 h.lo.2.1 h.lo.2.2.1 h.lo.2.2.2 (hd.mf.ne h6) (hd.mb.ne h6),⟨v,set_row_self h6 _,hT.setOther h6 (by decide)⟩,h.lo⟩
theorem DI.put {w W:World} {b5 fm bm b10 b11 b12 a b x:Nat} {D:Disc} {Q:List Nat} {y:Stp} (h:DI w b5 fm bm b10 b11 b12 a b D Q W) (hm:metB a D y.to_=false) :
  ∃ W1 W2,(Instr.mapUpdate 131 (.map (some fm)) (.int .i64 y.to_) (.int .i64 x)).run Tryz.prog W=.ok () W1/\(Instr.mapUpdate 132 (.map (some bm)) (.int .i64 y.to_) (encV y)).run Tryz.prog W1=.ok () W2 /\
   W.grownBy W1 (some fm)/\W1.grownBy W2 (some bm)/\W2.heap.size=W.heap.size/\DI w b5 fm bm b10 b11 b12 a b (D++[(y.to_,x,y)]) Q W2/\(∀ (j:Nat) (cs:Array Value) (T:TypeId) (p:Nat × Nat),W.heap[j]? = some (.cells cs T p)->W1.heap[j]? = some (.cells cs T p)/\W2.heap[j]? = some (.cells cs T p)) /\
   ∀ n c1 c2,n<=w.heap.size->KpF n (footR c1 c2) W W2:=by
 obtain ⟨W1,W2,r1,r2,g1,g2,s1,s2,hd,ho1,ho2⟩:=h.dm.put (x:=x) hm;have key:∀ (j:Nat) (cs:Array Value) (T:TypeId) (p:Nat × Nat),W.heap[j]? = some (.cells cs T p)->W1.heap[j]? = some (.cells cs T p)/\W2.heap[j]? = some (.cells cs T p):=fun j cs T p hj=>by
  have e1:=(g1.block j (row_lt hj) (fun e=>h.dm.mf.ne hj (Option.some.inj e))).trans hj;exact ⟨e1,(g2.block j (row_lt e1) (fun e=>h.dm.mb.ne hj (Option.some.inj e))).trans e1⟩
 have back:∀ (j:Nat) (cs:Array Value) (T:TypeId) (p:Nat × Nat),W2.heap[j]? = some (.cells cs T p)->W.heap[j]? = some (.cells cs T p):=fun j cs T p hj=>by
  have hj2:j≠bm:=hd.mb.ne hj;have hj1:j≠fm:=hd.mf.ne hj;have hlt:=row_lt hj;have e1:=(g2.block j (by omega) (fun e=>hj2 (Option.some.inj e))).symm.trans hj;exact (g1.block j (by omega) (fun e=>hj1 (Option.some.inj e))).symm.trans e1
 obtain ⟨v,t1,t2⟩:=h.todo;refine ⟨W1,W2,r1,r2,g1,g2,s2,⟨hd,⟨v,(key _ _ _ _ t1).2,?_⟩,h.lo⟩,key,fun n c1 c2 hn=>⟨?_,fun j cs T p _ hj=>(key j cs T p hj).2,fun j cs T p hj hf=>?_⟩⟩
 ·obtain ⟨g,off,cap,cur,rfl,k1,k2,k3,k4,k5,k6⟩:=t2;exact ⟨g,off,cap,cur,rfl,k1,(key _ _ _ _ k2).2,k3,k4,k5,k6⟩
 ·have hl:=h.dm.lo;have he:=h.dm.ext.size;exact ((Below.refl n W).grown g1 (by omega) (fun k e=>by cases e; omega)).grown g2 (by omega) (fun k e=>by cases e; omega)
 ·rcases hf with h1 | h1 | ⟨cur',h1,h2⟩
  ·exact Or.inl h1
  ·exact Or.inr (Or.inl h1)
  ·exact Or.inr (Or.inr ⟨cur',back _ _ _ _ h1,h2⟩)
structure IStp where
 rule:Int
 to_:Int
 n:Int
deriving DecidableEq,Inhabited
def Stp.toI (s:Stp):IStp:=⟨s.rule,s.to_,s.n⟩
def IsIStp (_:World) (s:IStp) (cs:List Value):Prop:=cs=[.int .u8 s.rule,.int .i64 s.to_,.int .i64 s.n]/\0<=s.rule/\s.rule<=255/\-9223372036854775808<=s.to_/\s.to_<=9223372036854775807/\-9223372036854775808<=s.n/\s.n<=9223372036854775807
abbrev StepsW:=SlW IsIStp 3
theorem StepsW.mono {w w':World} {v:Value} {xs:List IStp} (hE:Ext w w') (h:StepsW w v xs):StepsW w' v xs:=SlW.mono (w:=w) (fun _ _ h=>h) hE h
theorem StepsW.le {w w':World} {v:Value} {xs:List IStp} (hE:CellLe w w') (h:StepsW w v xs):StepsW w' v xs:=SlW.le (w:=w) (fun _ _ h=>h) hE h
instance:Inhabited Stp:=⟨⟨0,0,0⟩⟩
def stpC (s:Stp):List Value:=[.int .u8 s.rule,.int .i64 s.to_,.int .i64 s.n]
def stpsC (l:List Stp):List Value:=(l.map stpC).flatten
theorem stpsC_snoc (l:List Stp) (s:Stp):stpsC (l++[s])=stpsC l++stpC s:=by unfold stpsC; simp
theorem stpsC_range (l:List Stp):stpsC l=((List.range l.length).map fun i=>stpC (nth l i)).flatten:=by
 unfold stpsC
 conv=>lhs; rw [<- range_map_nth l]
 rw [List.map_map]; rfl
theorem stepsRow_of_owns {w:World} {base g n cap:Nat} {l:List Stp} (h:w.ownsRow base 93 3 (.slice (some ⟨g,0,none⟩) n cap) l.length (stpsC l)):StepsRow w g l.length (nth l)/\n=l.length/\n<=cap/\base<=g:=by
 obtain ⟨hlen,h⟩:=h;rcases h with ⟨h,_⟩ | ⟨g',cap',cur,h,hb,hg,hnc,_,hcs,htake⟩
 ·cases h
 ·cases h;refine ⟨⟨cur,hg,fun p hp=>?_⟩,rfl,hnc,hb⟩;have hx:∀ j,j<3->cur[p*3+j]? = (stpC (nth l p))[j]? := fun j hj=>by
   have h1:=flat_get (fun i=>stpC (nth l i)) 3 l.length (fun i _=>rfl) p j hp hj;rw [<- stpsC_range,<- htake,List.getElem?_take,if_pos (by omega)] at h1
   simpa using h1
  exact ⟨hx 0 (by decide),hx 1 (by decide),hx 2 (by decide)⟩
theorem StepsRow.steps {w:World} {b cap:Nat} {l:List Stp} (h:StepsRow w b l.length (nth l)) (hc:l.length<=cap) (hm:l.length<=1000000) (hok:∀ s,s∈l->OkStp 400 s):StepsW w (.slice (some ⟨b,0,none⟩) l.length cap) (l.map Stp.toI):=by
 obtain ⟨cur,h1,h2⟩:=h;refine ⟨some ⟨b,0,none⟩,cap,by simp,by simpa using hc,by simp [maxBytes]; omega,fun i x hx=>?_⟩;have hi:i<l.length:=by have:=(List.getElem?_eq_some_iff.1 hx).1; simpa using this
 have hxe:x=(nth l i).toI:=by
  rw [List.getElem?_map,get_of_lt hi] at hx;exact (Option.some.inj hx).symm
 subst hxe;obtain ⟨e0,e1,e2⟩:=h2 i hi;obtain ⟨q1,q2,q3⟩:=hok _ (nth_mem hi);refine ⟨b,0,stpC (nth l i),rfl,⟨rfl,?_⟩,rfl,fun j u hu=>?_⟩
 ·show 0<=((nth l i).rule:Int)/\((nth l i).rule:Int)<=255/\(-9223372036854775808:Int)<=(nth l i).to_/\((nth l i).to_:Int)<=9223372036854775807/\(-9223372036854775808:Int)<=(nth l i).n/\((nth l i).n:Int)<=9223372036854775807
  omega
 ·rw [Nat.zero_add]
  match j,hu with
  | 0,hu=>cases hu; exact row_cell h1 e0
  | 1,hu=>cases hu; exact row_cell h1 e1
  | 2,hu=>cases hu; exact row_cell h1 e2
theorem MarksW.other {B b:Nat} {l:List Nat} {W W':World} (h:MarksW B l W) (hg:W.grownBy W' (some b)) (hb:b<B):MarksW B l W' :=
 ⟨h.nd,fun D hD=>⟨(h.each D hD).1,(hg.block D (row_lt (h.each D hD).2) (fun e=>by have e:=Option.some.inj e; have:=(h.each D hD).1; omega)).trans (h.each D hD).2⟩⟩
end
end Go.Proofs.YtjffkeoajkhbmaaGreat
