/- What lies below what, in plain Lean: steps told one by one; words stay words; types that are the same; more revelations. Words lie below words alone; types that are equal are the same; what lies below stays below with more revelations. Rings, agreement and classes as the reference reckons them, in plain Lean. The reference's Check of a graph, and its checked. -/
import Derived.Test.YtjffkeoajkhbmaaGreatOW5
import Derived.Test.YtjffkeoajkhbmaaGreatOW10
import Derived.Test.YtjffkeoajkhbmaaGreatOW27
import Derived.Test.YtjffkeoajkhbmaaGreatOW32
namespace Go.Proofs.YtjffkeoajkhbmaaGreat
set_option linter.unusedSimpArgs false
set_option linter.unusedVariables false
set_option maxRecDepth 100000
set_option maxHeartbeats 8000000
section
open Go.RowKit Go.Proofs
theorem succ_ok {g:List Ty} {rs:List Reveal} (h:openE g rs=0):∀ x,x<g.length->∀ u,u∈succF g (classesOf g) rs x->u<g.length:=by
 obtain ⟨_,h400,h60,hr,hbad⟩:=opens h;exact succF_lt hr h60 (fun i hi=>rev_in (hbad i hi))
theorem nth_reachL {g:List Ty} {rs:List Reveal} {a:Nat} (ha:a<g.length):nth (reachL g rs g.length) a=reachN (succF g (classesOf g) rs) g.length a:=by
 rw [nth_eq (by rw [reachL_len]; exact ha)];simp [reachL]
def Lies (g:List Ty) (rs:List Reveal) (a b:Nat):Prop:=Reach (succF g (classesOf g) rs) a b
theorem bit_lies {g:List Ty} {rs:List Reveal} (h:openE g rs=0) {a b:Nat} (ha:a<g.length):(nth (reachL g rs g.length) a).testBit b=true↔Lies g rs a b:=by
 rw [nth_reachL ha];exact reachN_iff ha (succ_ok h) b
theorem asked_in {n:Nat} {l:List Int} (h:∀ i,i∈l->0<=i/\i<n):askedR n l=0:=by
 rcases askedR_cases n l with ⟨h0,_⟩ | ⟨_,i,hi,hh⟩
 ·exact h0
 ·have:=h i hi;rw [hasI_iff.2 this] at hh; cases hh
theorem asked_two {n a b:Nat} (ha:a<n) (hb:b<n):askedR n [(a:Int),(b:Int)]=0:=asked_in (fun i hi=>by
 simp only [List.mem_cons,List.not_mem_nil,or_false] at hi;omega)
def StepOk (g:List Ty) (C:Nat->Nat) (rs:List Reveal) (x:Nat) (s:Stp):Prop :=
 (s.rule=1/\s.n=0/\s.to_<g.length/\C s.to_=C x) \/
 (s.rule=2/\s.n=0/\s.to_<g.length/\(nth g x).kind=3/\widerB (nth g x) (nth g s.to_)=true) \/
 (s.rule=3/\s.n=0/\s.to_<g.length/\(nth g x).kind=5/\isWordB (nth g s.to_).kind=false) \/
 (s.rule=4/\s.n=0/\hasSuperB (nth g x).kind=true/\s.to_=(nth g x).super.toNat) \/
 (s.rule=5/\s.n<rs.length/\(nth g x).kind=13/\(nth rs s.n).name=(nth g x).opq/\s.to_=(nth rs s.n).type.toNat) \/
 (s.rule=6/\s.n<rs.length/\s.to_<g.length/\(nth rs s.n).full=true/\(nth rs s.n).type=(x:Int)/\(nth g s.to_).kind=13/\(nth g s.to_).opq=(nth rs s.n).name) \/
 (s.rule=7/\s.n=0/\s.to_<g.length/\anyP (anyTo (nth g x).kind) (nth g s.to_).kind=true)
theorem mem_toL {r n:Nat} {p:Nat->Bool} {s:Stp}:s∈toL r n p↔s.rule=r/\s.n=0/\s.to_<n/\p s.to_=true:=by
 unfold toL;simp only [List.mem_map,List.mem_filter,List.mem_range];constructor
 ·rintro ⟨u,⟨h1,h2⟩,rfl⟩; exact ⟨rfl,rfl,h1,h2⟩
 ·obtain ⟨a,b,c⟩:=s;rintro ⟨h1,h2,h3,h4⟩;simp only at h1 h2 h3 h4;subst h1 h2;exact ⟨b,⟨h3,h4⟩,rfl⟩
theorem mem_byN {rs:List Reveal} {k:Nat} {name:BA} {i:Nat}:i∈byN rs k name↔i<k/\(nth rs i).name=name:=by
 unfold byN;simp only [List.mem_filter,List.mem_range,beq_iff_eq]
theorem mem_back {g:List Ty} {rs:List Reveal} {t:Nat} {s:Stp}:s∈backL g rs t↔s.rule=6/\s.n<rs.length/\s.to_<g.length/\(nth rs s.n).full=true/\(nth rs s.n).type=(t:Int)/\(nth g s.to_).kind=13/\(nth g s.to_).opq=(nth rs s.n).name:=by
 unfold backL backUpTo;simp only [List.mem_flatten,List.mem_map,List.mem_range];constructor
 ·rintro ⟨l,⟨i,hi,rfl⟩,hs⟩;unfold backOf at hs;split at hs
  ·rename_i h
   simp only [Bool.and_eq_true,beq_iff_eq] at h;obtain ⟨u,hu,rfl⟩:=List.mem_map.1 hs;obtain ⟨h1,h2⟩:=List.mem_filter.1 hu;simp only [Bool.and_eq_true,beq_iff_eq] at h2;exact ⟨rfl,hi,List.mem_range.1 h1,h.1,h.2,h2.1,h2.2⟩
  ·cases hs
 ·obtain ⟨a,b,c⟩:=s;rintro ⟨h1,h2,h3,h4,h5,h6,h7⟩;simp only at h1 h2 h3 h4 h5 h6 h7;subst h1;refine ⟨_,⟨c,h2,rfl⟩,?_⟩;unfold backOf;rw [if_pos (by rw [h4,h5]; simp)];exact List.mem_map.2 ⟨b,List.mem_filter.2 ⟨List.mem_range.2 h3,by rw [h6,h7]; simp⟩,rfl⟩
theorem mem_steps {g:List Ty} {C:Nat->Nat} {rs:List Reveal} {x:Nat} {s:Stp}:s∈stepsL g C rs x↔StepOk g C rs x s:=by
 unfold stepsL stepsTo;simp only [List.mem_flatten,List.mem_map,List.mem_range];constructor
 ·rintro ⟨l,⟨i,hi,rfl⟩,hs⟩;rcases (show i=0\/i=1\/i=2\/i=3\/i=4\/i=5\/i=6\/i=7 by omega) with rfl | rfl | rfl | rfl | rfl | rfl | rfl | rfl
  ·cases hs
  ·have:=mem_toL.1 hs;exact Or.inl ⟨this.1,this.2.1,this.2.2.1,by simpa using this.2.2.2⟩
  ·simp only [ruleL,widerL] at hs;split at hs
   ·rename_i h
    have:=mem_toL.1 hs;exact Or.inr (Or.inl ⟨this.1,this.2.1,this.2.2.1,h,this.2.2.2⟩)
   ·cases hs
  ·simp only [ruleL,nullL] at hs;split at hs
   ·rename_i h
    have:=mem_toL.1 hs;exact Or.inr (Or.inr (Or.inl ⟨this.1,this.2.1,this.2.2.1,h,by simpa using this.2.2.2⟩))
   ·cases hs
  ·simp only [ruleL,superL] at hs;split at hs
   ·rename_i h
    rw [List.mem_singleton] at hs;subst hs;exact Or.inr (Or.inr (Or.inr (Or.inl ⟨rfl,rfl,h,rfl⟩)))
   ·cases hs
  ·simp only [ruleL,revealL] at hs;split at hs
   ·rename_i h
    obtain ⟨i,hi,rfl⟩:=List.mem_map.1 hs;have:=mem_byN.1 hi;exact Or.inr (Or.inr (Or.inr (Or.inr (Or.inl ⟨rfl,this.1,h,this.2,rfl⟩))))
   ·cases hs
  ·exact Or.inr (Or.inr (Or.inr (Or.inr (Or.inr (Or.inl (mem_back.1 hs))))))
  ·have:=mem_toL.1 hs;exact Or.inr (Or.inr (Or.inr (Or.inr (Or.inr (Or.inr ⟨this.1,this.2.1,this.2.2.1,this.2.2.2⟩)))))
 ·obtain ⟨a,b,c⟩:=s;rintro (⟨h1,h2,h3,h4⟩ | ⟨h1,h2,h3,h4,h5⟩ | ⟨h1,h2,h3,h4,h5⟩ | ⟨h1,h2,h3,h4⟩ | ⟨h1,h2,h3,h4,h5⟩ | h | ⟨h1,h2,h3,h4⟩)
  ·exact ⟨_,⟨1,by decide,rfl⟩,mem_toL.2 ⟨h1,h2,h3,by simpa using h4⟩⟩
  ·refine ⟨_,⟨2,by decide,rfl⟩,?_⟩;simp only [ruleL,widerL];rw [if_pos h4];exact mem_toL.2 ⟨h1,h2,h3,h5⟩
  ·refine ⟨_,⟨3,by decide,rfl⟩,?_⟩;simp only [ruleL,nullL];rw [if_pos h4];exact mem_toL.2 ⟨h1,h2,h3,by simpa using h5⟩
  ·refine ⟨_,⟨4,by decide,rfl⟩,?_⟩;simp only [ruleL,superL];rw [if_pos h3,List.mem_singleton];simp only at h1 h2 h4;rw [h1,h2,h4]
  ·refine ⟨_,⟨5,by decide,rfl⟩,?_⟩;simp only [ruleL,revealL];rw [if_pos h3];simp only at h1 h2 h4 h5;exact List.mem_map.2 ⟨c,mem_byN.2 ⟨h2,h4⟩,by rw [h1,h5]⟩
  ·exact ⟨_,⟨6,by decide,rfl⟩,mem_back.2 h⟩
  ·exact ⟨_,⟨7,by decide,rfl⟩,mem_toL.2 ⟨h1,h2,h3,h4⟩⟩
theorem lead_le_of {i k:Nat} {p:Nat->Bool} (hk:k<i) (h:p k=true):lead i p<=k:=by
 unfold lead;cases hf:(List.range i).find? p with
 | none =>
  have:=List.find?_eq_none.1 hf k (List.mem_range.2 hk);exact absurd h this
 | some m =>
  show m<=k
  rw [List.find?_range_eq_some] at hf;rcases Nat.lt_or_ge k m with hlt | hge
  ·have:=hf.2.2 k hlt;rw [h] at this; cases this
  ·exact hge
theorem leadF_same {q:Nat->Nat->Bool} {i j:Nat} (hij:i<=j) (hq:∀ k,q i k=q j k) (hr:q i i=true):leadF q i=leadF q j:=by
 rw [leadF_eq q j];rcases Nat.lt_or_ge i j with hlt | hge
 ·have h0:=leadF_eq q i;rcases lead_cases i (fun k=>leadF q k==k&&q i k) with h | ⟨h,h2⟩
  ·have hli:leadF q i=i:=by rw [h0,h]
   rw [hli];refine (lead_hit hlt (by rw [hli,<- hq i,hr]; simp) (fun k hk=>?_)).symm;cases hc:(leadF q k==k&&q j k) with
   | false=>rfl
   | true =>
    exfalso;rw [<- hq k] at hc;have:=lead_le_of (p:=fun k=>leadF q k==k&&q i k) hk hc;omega
  ·have hli:leadF q i=lead i (fun k=>leadF q k==k&&q i k):=h0;rw [hli];refine (lead_hit (by omega) (by rw [<- hq]; exact h2) (fun k hk=>?_)).symm;cases hc:(leadF q k==k&&q j k) with
   | false=>rfl
   | true =>
    exfalso;rw [<- hq k] at hc;have:=lead_le_of (p:=fun k=>leadF q k==k&&q i k) (show k<i by omega) hc;omega
 ·have:i=j:=by omega
  subst this;exact leadF_eq q i
end
section
open Go.RowKit Go.Proofs
theorem sameB_refl {α:Type} {eq:α->α->Bool} (h:∀ x,eq x x=true):∀ l,sameB eq l l=true
 | []=>rfl
 | x :: l=>by simp only [sameB,h x,sameB_refl h l,Bool.and_self]
theorem agreeB_refl (x:Ty):agreeB x x=true:=by
 unfold agreeB plainEq;rw [sameB_refl (fun p=>by unfold partEq; simp),sameB_refl (fun m=>by unfold methEq; simp [sameB_refl (fun (a:BA)=>by simp:∀ a:BA,(a==a)=true)]),sameB_refl (fun o=>by unfold overEq; simp)];simp
end
section
open Go.RowKit Go.Proofs
theorem least_of {P:Nat->Prop} {k:Nat} (h:P k):∃ k,P k/\∀ j,j<k->¬ P j:=by
 induction k using Nat.strongRecOn with
 | ind k ih =>
  by_cases hj:∃ j,j<k/\P j
  ·obtain ⟨j,hj,hp⟩:=hj;exact ih j hj hp
  ·exact ⟨k,h,fun j hj' hp=>hj ⟨j,hj',hp⟩⟩
def itO (g:List Ty):Nat->Nat->Option Nat
 | 0,a=>some a
 | k+1,a=>if hasSuperB (nth g a).kind then itO g k (nth g a).super.toNat else none
theorem itO_add (g:List Ty):∀ (a b x:Nat),itO g (a+b) x=(itO g a x).bind (itO g b)
 | 0,b,x=>by rw [Nat.zero_add]; rfl
 | a+1,b,x=>by
  rw [show a+1+b=(a+b)+1 by omega];simp only [itO];split
  ·exact itO_add g a b _
  ·rfl
theorem ring_iff {g:List Ty} {i:Nat}:∀ (m a:Nat),ringB g i m a=true↔∃ k,1<=k/\k<=m/\itO g k a=some i
 | 0,a=>by
  simp only [ringB];exact ⟨fun h=>(by cases h),fun ⟨k,h1,h2,_⟩=>by omega⟩
 | m+1,a=>by
  simp only [ringB];cases hs:hasSuperB (nth g a).kind
  ·simp only [Bool.false_eq_true,if_false,false_iff];rintro ⟨k,h1,h2,h3⟩;obtain ⟨k,rfl⟩:∃ k',k=k'+1:=⟨k-1,by omega⟩;simp only [itO,hs,Bool.false_eq_true,if_false] at h3;cases h3
  ·simp only [if_true];by_cases he:(nth g a).super.toNat=i
   ·rw [if_pos he];refine ⟨fun _=>⟨1,Nat.le_refl _,by omega,?_⟩,fun _=>rfl⟩;simp only [itO,hs,if_true,he]
   ·rw [if_neg he,ring_iff m];constructor
    ·rintro ⟨k,h1,h2,h3⟩;refine ⟨k+1,by omega,by omega,?_⟩;simp only [itO,hs,if_true];exact h3
    ·rintro ⟨k,h1,h2,h3⟩;obtain ⟨k,rfl⟩:∃ k',k=k'+1:=⟨k-1,by omega⟩;simp only [itO,hs,if_true] at h3;refine ⟨k,?_,by omega,h3⟩;rcases Nat.eq_zero_or_pos k with h0 | h0
     ·subst h0;simp only [itO] at h3;exact absurd (Option.some.inj h3) he
     ·exact h0
theorem itO_lt {g:List Ty} (hr:∀ i,i<g.length->rightB g (nth g i)=true):∀ (k a b:Nat),a<g.length->itO g k a=some b->b<g.length
 | 0,a,b,ha,h=>by simp only [itO] at h; cases h; exact ha
 | k+1,a,b,ha,h=>by
  simp only [itO] at h;split at h
  ·rename_i hs
   have:=right_super (hr a ha) hs;exact itO_lt hr k _ b (by omega) h
  ·cases h
theorem ring_rest {g:List Ty} (hr:∀ i,i<g.length->rightB g (nth g i)=true) {i:Nat} (hi:i<g.length):ringB g i (g.length+1) i=ringB g i g.length i:=by
 rw [Bool.eq_iff_iff,ring_iff,ring_iff];constructor
 ·rintro ⟨k,h1,h2,h3⟩;obtain ⟨m,⟨m1,m2⟩,hl⟩:=least_of (P:=fun k=>1<=k/\itO g k i=some i) ⟨h1,h3⟩;have hsome:∀ j,j<m->∃ x,itO g j i=some x/\itO g (m-j) x=some i:=fun j hj=>by
   rw [show m=j+(m-j) by omega,itO_add] at m2;cases hx:itO g j i with
   | none=>rw [hx] at m2; cases m2
   | some x=>rw [hx] at m2; exact ⟨x,rfl,m2⟩
  have hnd:((List.range m).map fun j=>(itO g j i).getD 0).Nodup:=by
   rw [List.nodup_iff_pairwise_ne,List.pairwise_map];refine List.pairwise_lt_range.imp_of_mem (fun {a b} ha hb hab he=>?_);have ha:=List.mem_range.1 ha;have hb:=List.mem_range.1 hb;obtain ⟨x,hx,_⟩:=hsome a ha;obtain ⟨y,hy,hy2⟩:=hsome b hb;rw [hx,hy] at he;have he:x=y:=he;subst he;refine hl (a+(m-b)) (by omega) ⟨by omega,?_⟩;rw [itO_add,hx];exact hy2
  have hle:=nodup_le (n:=g.length) hnd (fun x hx=>by
   obtain ⟨j,hj,rfl⟩:=List.mem_map.1 hx;obtain ⟨y,hy,_⟩:=hsome j (List.mem_range.1 hj);rw [hy];exact itO_lt hr j i y hi hy)
  rw [List.length_map,List.length_range] at hle;exact ⟨m,m1,hle,m2⟩
 ·rintro ⟨k,h1,h2,h3⟩;exact ⟨k,h1,by omega,h3⟩
theorem sameB_symm {α:Type} {eq:α->α->Bool} (h:∀ x y,eq x y=eq y x):∀ xs ys,sameB eq xs ys=sameB eq ys xs
 | [],[]=>rfl
 | x :: xs,y :: ys=>by simp only [sameB,h x y,sameB_symm h xs ys]
 | [],_ :: _=>rfl
 | _ :: _,[]=>rfl
theorem sameB_trans {α:Type} {eq:α->α->Bool} (h:∀ x y z,eq x y=true->eq y z=true->eq x z=true):∀ xs ys zs,sameB eq xs ys=true->sameB eq ys zs=true->sameB eq xs zs=true
 | [],[],[],_,_=>rfl
 | x :: xs,y :: ys,z :: zs,h1,h2=>by
  simp only [sameB,Bool.and_eq_true] at h1 h2 ⊢;exact ⟨h x y z h1.1 h2.1,sameB_trans h xs ys zs h1.2 h2.2⟩
 | [],[],_ :: _,_,h=>by simp [sameB] at h
 | _ :: _,_ :: _,[],_,h=>by simp [sameB] at h
 | [],_ :: _,_,h,_=>by simp [sameB] at h
 | _ :: _,[],_,h,_=>by simp [sameB] at h
theorem meth_symm (x y:Meth):methEq x y=methEq y x:=by
 unfold methEq;rw [sameB_symm (fun a b=>by rw [Bool.eq_iff_iff,beq_iff_eq,beq_iff_eq]; exact eq_comm),Bool.eq_iff_iff];simp only [Bool.and_eq_true,beq_iff_eq];rw [eq_comm (a:=x.name),eq_comm (a:=x.proc),eq_comm (a:=x.sig.args.length),eq_comm (a:=decide (x.sig.result<0))]
theorem part_symm (a b:Part):partEq a b=partEq b a:=by unfold partEq; rw [Bool.eq_iff_iff,beq_iff_eq,beq_iff_eq]; exact eq_comm
theorem over_symm (a b:Over):overEq a b=overEq b a:=by
 unfold overEq;rw [Bool.eq_iff_iff];simp only [Bool.and_eq_true,beq_iff_eq];exact ⟨fun h=>⟨h.1.symm,h.2.symm⟩,fun h=>⟨h.1.symm,h.2.symm⟩⟩
theorem agree_symm (x y:Ty):agreeB x y=agreeB y x:=by
 unfold agreeB plainEq;rw [sameB_symm part_symm x.parts y.parts,sameB_symm meth_symm x.methods y.methods,sameB_symm over_symm x.overs y.overs];rw [Bool.eq_iff_iff];simp only [Bool.and_eq_true,beq_iff_eq];rw [eq_comm (a:=x.kind),eq_comm (a:=x.low),eq_comm (a:=x.high),eq_comm (a:=x.branded),eq_comm (a:=x.brand),eq_comm (a:=x.opq)]
theorem meth_trans (x y z:Meth) (h1:methEq x y=true) (h2:methEq y z=true):methEq x z=true:=by
 unfold methEq at *;simp only [Bool.and_eq_true,beq_iff_eq] at *;exact ⟨⟨⟨⟨h1.1.1.1.1.trans h2.1.1.1.1,h1.1.1.1.2.trans h2.1.1.1.2⟩,h1.1.1.2.trans h2.1.1.2⟩,h1.1.2.trans h2.1.2⟩,sameB_trans (fun a b c h1 h2=>by rw [beq_iff_eq] at *; exact h1.trans h2) _ _ _ h1.2 h2.2⟩
theorem agree_trans (x y z:Ty) (h1:agreeB x y=true) (h2:agreeB y z=true):agreeB x z=true:=by
 unfold agreeB plainEq at *;simp only [Bool.and_eq_true,beq_iff_eq] at *;refine ⟨⟨⟨⟨⟨⟨⟨⟨h1.1.1.1.1.1.1.1.1.trans h2.1.1.1.1.1.1.1.1,h1.1.1.1.1.1.1.1.2.trans h2.1.1.1.1.1.1.1.2⟩,h1.1.1.1.1.1.1.2.trans h2.1.1.1.1.1.1.2⟩,h1.1.1.1.1.1.2.trans h2.1.1.1.1.1.2⟩,h1.1.1.1.1.2.trans h2.1.1.1.1.2⟩,h1.1.1.1.2.trans h2.1.1.1.2⟩,?_⟩,?_⟩,?_⟩
 ·exact sameB_trans (fun a b c h1 h2=>by unfold partEq at *; rw [beq_iff_eq] at *; exact h1.trans h2) _ _ _ h1.1.1.2 h2.1.1.2
 ·exact sameB_trans meth_trans _ _ _ h1.1.2 h2.1.2
 ·exact sameB_trans (fun a b c h1 h2=>by unfold overEq at *; simp only [Bool.and_eq_true,beq_iff_eq] at *; exact ⟨h1.1.trans h2.1,h1.2.trans h2.2⟩) _ _ _ h1.2 h2.2
theorem class0_of {g:List Ty} {k i:Nat} (hk:k<=i) (h:agreeB (nth g k) (nth g i)=true):class0 g i=class0 g k:=by
 refine (leadF_same hk (fun j=>?_) (agreeB_refl _)).symm;rw [Bool.eq_iff_iff];exact ⟨fun h2=>agree_trans _ _ _ (by rw [agree_symm]; exact h) h2,fun h2=>agree_trans _ _ _ h h2⟩
theorem class0_self {g:List Ty} {i:Nat} (h:∀ j,j<i->agreeB (nth g j) (nth g i)=false):class0 g i=i:=by
 unfold class0;rw [leadF_eq];refine lead_self (fun j hj=>?_);rw [agree_symm,h j hj,Bool.and_false]
theorem leadF_congr {n:Nat} {q q':Nat->Nat->Bool} (h:∀ i,i<n->∀ k,k<i->q i k=q' i k):∀ i,i<n->leadF q i=leadF q' i:=by
 intro i
 induction i using Nat.strongRecOn with
 | ind i ih =>
  intro hi;rw [leadF_eq,leadF_eq];exact lead_congr (fun j hj=>by rw [ih j hj (by omega),h i hi j hj])
theorem step_congr {g:List Ty} (hr:∀ i,i<g.length->rightB g (nth g i)=true) {C D:Nat->Nat} (h:∀ j,j<g.length->C j=D j):∀ i,i<g.length->classStep g C i=classStep g D i:=by
 have hm:∀ i,i<g.length->mineOf g C i=mineOf g D i:=fun i hi=>by
  unfold mineOf;refine List.map_congr_left (fun r hr2=>?_);have:=refs_in (hr i hi) r hr2;rw [h _ (by omega)]
 refine leadF_congr (fun i hi k hk=>?_);show (C k==C i&&stepQ g C i k)=(D k==D i&&stepQ g D i k)
 unfold stepQ;rw [h k (by omega),h i hi,hm i hi,hm k (by omega)]
theorem iter_rest {g:List Ty} (hr:∀ i,i<g.length->rightB g (nth g i)=true) {m:Nat} (hf:isFix g m=true):∀ d i,i<g.length->classIter g (m+d) i=classIter g m i
 | 0,_,_=>rfl
 | d+1,i,hi=>by
  have h1:classIter g (m+1) i=classIter g m i:=by
   unfold isFix at hf;rw [List.all_eq_true] at hf
   simpa using hf i (List.mem_range.2 hi)
  rw [<- h1];exact step_congr hr (fun j hj=>iter_rest hr hf d j hj) i hi
theorem fix_some (g:List Ty):∃ m,m<=g.length/\isFix g m=true/\∀ j,j<m->isFix g j=false:=by
 by_cases h:∃ m,m<=g.length/\isFix g m=true
 ·obtain ⟨m,hm,h1⟩:=h;obtain ⟨k,⟨k1,k2⟩,hl⟩:=least_of (P:=fun m=>m<=g.length/\isFix g m=true) ⟨hm,h1⟩;refine ⟨k,k1,k2,fun j hj=>?_⟩;cases hb:isFix g j with
  | false=>rfl
  | true=>exact absurd ⟨by omega,hb⟩ (hl j hj)
 ·have hno:∀ j,j<=g.length->isFix g j=false:=fun j hj=>by
   cases hb:isFix g j with
   | false=>rfl
   | true=>exact absurd ⟨j,hj,hb⟩ h
  have:∀ j,j<=g.length+1->j<=leaders g.length (classIter g j):=by
   intro j
   induction j with
   | zero=>intro _; exact Nat.zero_le _
   | succ j ih =>
    intro hj;have:=iter_grows (hno j (by omega));have:=ih (by omega);omega
  have h1:=this (g.length+1) (Nat.le_refl _);have h2:=leaders_le g.length (classIter g (g.length+1));omega
theorem classes_last {g:List Ty} (hr:∀ i,i<g.length->rightB g (nth g i)=true) {i:Nat} (hi:i<g.length):classIter g (g.length+1) i=classesOf g i:=by
 obtain ⟨m,hm,h1,h2⟩:=fix_some g;rw [classesOf_eq hm h1 h2,show g.length+1=m+(g.length+1-m) by omega];exact iter_rest hr h1 _ i hi
end
section
open Go.RowKit Go.Proofs
theorem checkR89 (a:Option Addr) (n c:Nat) (g:List Ty) (w:World) (hg:Graph w (.slice a n c) g) :
  Calls Tryz.prog 89 #[.slice a n c] w fun e w'=>e=.returned (.tuple #[.int .i64 (checkB g).1,.int .i64 (checkB g).2])/\Ext w w':=by
 have hb:=(SlW.bound hg).2;obtain rfl:=SlW.len hg;by_cases h4:400<g.length
 ·have hs:=dh (show checkB g=(400,30) by unfold checkB; rw [if_pos h4]);have h4i:(400:Int)<g.length:=by omega
  go_enter Tryz.func89,Tryz.ntmps89
  go_wp2_with fail;go_ret2;exact ⟨by rw [hs.out]; rfl,Ext.refl _⟩
 have hend1:=dh (show ∀ k:Nat,k<g.length->rightB g (nth g k)=false->(∀ i,i<k->rightB g (nth g i)=true)->checkB g=(k,30) from fun k hk h1 h2=>by
  unfold checkB; rw [if_neg h4,find_some hk (by rw [h1]; rfl) (fun i hi=>by rw [h2 i hi]; rfl)])
 have hend2:=dh (show ∀ k:Nat,k<g.length->(∀ i,i<g.length->rightB g (nth g i)=true)->ringB g k (g.length+1) k=true->(∀ i,i<k->ringB g i (g.length+1) i=false)->checkB g=(k,30) from fun k hk h1 h2 h3=>by
  unfold checkB; rw [if_neg h4,find_none (fun i hi=>by rw [h1 i hi]; rfl)]; dsimp only; rw [find_some (p:=fun i=>ringB g i g.length i) hk (by rw [<- ring_rest h1 hk]; exact h2) (fun i hi=>by rw [<- ring_rest h1 (by omega)]; exact h3 i hi)])
 have hend3:=dh (show (∀ i,i<g.length->rightB g (nth g i)=true)->(∀ i,i<g.length->ringB g i (g.length+1) i=false)->checkB g=(0,0) from fun h1 h3=>by
  unfold checkB; rw [if_neg h4,find_none (fun i hi=>by rw [h1 i hi]; rfl)]; dsimp only; rw [find_none (p:=fun i=>ringB g i g.length i) (fun i hi=>by rw [<- ring_rest h1 hi]; exact h3 i hi)])
 have Hg:=dh hg; clear hg;have h4i:¬ (400:Int)<g.length:=by omega
 go_enter Tryz.func89,Tryz.ntmps89
 go_upto_region 4 with (fail);go_loopw [4] (fun i wr=>∃ k:Nat,k<=g.length/\i=.int .i64 k/\Hid (Ext w wr/\∀ j,j<k->rightB g (nth g j)=true)) (fun i _=>g.length-(intOf i).toNat)
 case atStart=>exact ⟨0,Nat.zero_le _,rfl,dh ⟨Ext.refl _,fun j hj=>absurd hj (Nat.not_lt_zero _)⟩⟩
 case round =>
  obtain ⟨k,hk,rfl,hH⟩:=hrel;obtain ⟨hE,hall⟩:=hH.out;clear hH;have HE:=dh hE; clear hE;have Hall:=dh hall; clear hall;by_cases hlt:k<g.length
  ·have hg1:=Graph.mono HE.out Hg.out;obtain ⟨b,off,pa,pl,pc,ma,ml,mc,oa,ol,oc,rfl,hlt2,hT⟩:=Graph.at hg1 hlt;obtain ⟨c0,c1,c2,c3,c4,c5,c6,c7,c8,c9,hps,hms,hos,hok⟩:=hT;go_wp2_with fail;refine (said124 (nth g k) _ _ c g pa pl pc ma ml mc oa ol oc _ hg1 hps hms hos hok).mono ?_;rintro e w2 ⟨rfl,hE⟩;have HE2:=dh (HE.out.trans hE);clear hE c0 c1 c2 c3 c4 c5 c6 c7 c8 c9 hps hms hos hg1;cases hr:rightB g (nth g k)
   ·have hh:=dh (hend1.out k hlt hr Hall.out);clear hr;go_wp2_with fail;go_ret2;exact ⟨by rw [hh.out]; rfl,HE2.out⟩
   ·have Hall2:=dh (show ∀ j,j<k+1->rightB g (nth g j)=true from fun j hj=>by
     by_cases hjk:j=k
     ·rw [hjk]; exact hr
     ·exact Hall.out j (by omega))
    clear hr;go_wp2_with fail;go_roundw
    case rel=>exact ⟨k+1,by omega,by go_num,dh ⟨HE2.out,Hall2.out⟩⟩
    case measure=>simp [intOf]; omega
  ·have:k=g.length:=by omega
   subst this;go_upto_region 9 with (fail);have Hg2:=dh (Graph.mono HE.out Hg.out);go_loopw [5,6,7] (fun i _ _ wx=>∃ k:Nat,k<=g.length/\i=.int .i64 k/\wx=wr/\Hid (∀ j,j<k->ringB g j (g.length+1) j=false)) (fun i _ _ _=>g.length-(intOf i).toNat)
   case atStart=>exact ⟨0,Nat.zero_le _,rfl,rfl,fun j hj=>absurd hj (Nat.not_lt_zero _)⟩
   case round =>
    obtain ⟨k,hk,rfl,rfl,Hr⟩:=hrel;by_cases hlt:k<g.length
    ·go_upto_region 13 with (fail);go_loopw [6,7] (fun at_ i wx=>∃ d j:Nat,d<=g.length+1/\j<g.length/\at_=.int .i64 j/\i=.int .i64 d/\wx=wr/\Hid (ringB g k (g.length+1) k=ringB g k (g.length+1-d) j)) (fun _ i _=>g.length+1-(intOf i).toNat)
     case atStart=>exact ⟨0,k,Nat.zero_le _,hlt,rfl,rfl,rfl,rfl⟩
     case round =>
      obtain ⟨d,j,hd,hj,rfl,rfl,rfl,Hq⟩:=hrel;have hrnd:=dh (show ringB g k (g.length+1) k=false->∀ j,j<k+1->ringB g j (g.length+1) j=false from fun h j hj=>by
       by_cases hjk:j=k
       ·rw [hjk]; exact h
       ·exact Hr.out j (by omega))
      by_cases hdl:d<=g.length
      ·obtain ⟨b,off,pa,pl,pc,ma,ml,mc,oa,ol,oc,hoff,hlt2,hT⟩:=Graph.at Hg2.out hj;obtain ⟨c0,c1,c2,c3,c4,c5,c6,c7,c8,c9,hps,hms,hos,hok⟩:=hT;have hs0:=hok.s0;have hs1:=hok.s1;clear c1 c2 c3 c4 c5 c7 c8 c9 hps hms hos hok;subst hoff;obtain ⟨m,hm⟩:∃ m,g.length+1-d=m+1:=⟨g.length+1-d-1,by omega⟩;have Hm:=dh hm;clear hm;cases hhs:hasSuperB (nth g j).kind
       ·have hno:=dh (hrnd.out (by rw [Hq.out,Hm.out]; unfold ringB; rw [hhs]; rfl));unfold hasSuperB at hhs;rw [Bool.or_eq_false_iff] at hhs;obtain ⟨k12,k13⟩:=hhs;clear c6 hs0 hs1;go_wp2_with fail;go_roundw
        case rel=>exact ⟨k+1,by omega,by go_num,trivial,hno⟩
        case measure=>simp [intOf]; omega
       ·obtain ⟨hs2,hs3⟩:=right_super (Hall.out j hj) hhs;obtain ⟨s,hs⟩:∃ s:Nat,(nth g j).super=s:=⟨(nth g j).super.toNat,(Int.toNat_of_nonneg hs2).symm⟩;have hring:=dh (show ringB g k (g.length+1-d) j=if s=k then true else ringB g k m s by
         rw [Hm.out]; conv=>lhs; unfold ringB
         rw [hhs,hs,Int.toNat_natCast]; rfl)
        rw [hs] at c6;have hsl:s<g.length:=by omega
        clear hs hs0 hs1 hs2 hs3;have hkk:((nth g j).kind==12)=true\/((nth g j).kind==12)=false/\((nth g j).kind==13)=true:=by
         unfold hasSuperB at hhs;rw [Bool.or_eq_true] at hhs;cases h:((nth g j).kind==12)
         ·exact Or.inr ⟨rfl,hhs.resolve_left (by rw [h]; decide)⟩
         ·exact Or.inl rfl
        clear hhs;by_cases hsk:s=k
        ·have hyes:=dh (hend2.out k hlt Hall.out (by rw [Hq.out,hring.out,if_pos hsk]) Hr.out);subst hsk;rcases hkk with k12 | ⟨k12,k13⟩
         ·go_wp2_with fail;go_ret2;exact ⟨by rw [hyes.out]; rfl,HE.out⟩
         ·go_wp2_with fail;go_ret2;exact ⟨by rw [hyes.out]; rfl,HE.out⟩
        ·have hno:=dh (show ringB g k (g.length+1) k=ringB g k (g.length+1-(d+1)) s by
          have:=Hm.out;rw [Hq.out,hring.out,if_neg hsk,show g.length+1-(d+1)=m by omega])
         have hskb:((s:Int)==(k:Int))=false:=by rw [beq_eq_false_iff_ne]; omega
         clear hsk;rcases hkk with k12 | ⟨k12,k13⟩
         ·go_wp2_with fail;go_roundw
          case rel=>exact ⟨d+1,s,by omega,hsl,rfl,by go_num,trivial,hno⟩
          case measure=>simp [intOf]; omega
         ·go_wp2_with fail;go_roundw
          case rel=>exact ⟨d+1,s,by omega,hsl,rfl,by go_num,trivial,hno⟩
          case measure=>simp [intOf]; omega
      ·have hdn:d=g.length+1:=by omega
       subst hdn;have hno:=dh (hrnd.out (by rw [Hq.out,Nat.sub_self]; rfl));go_wp2_with fail;go_roundw
       case rel=>exact ⟨k+1,by omega,by go_num,trivial,hno⟩
       case measure=>simp [intOf]; omega
    ·have:k=g.length:=by omega
     subst this;have hh:=dh (hend3.out Hall.out Hr.out);go_wp2_with fail;go_ret2;exact ⟨by rw [hh.out]; rfl,HE.out⟩
end
end Go.Proofs.YtjffkeoajkhbmaaGreat
