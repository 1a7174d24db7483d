/- Environments whose types stand elsewhere, or once: they are right, or not, in both, and the same types lie below each other. Plain Lean. The reference's Right: does a step lead from a type? The reference's one: does some step lead from a type to another one? What lies in memory while the reference opens an environment. The reference's In. Questions to the reference's environment: Below, Above, Join. The law's bound on revelations. The reference's comparison of numbers. -/
import Derived.Test.YtjffkeoajkhbmaaGreatOX25
import Derived.Test.YtjffkeoajkhbmaaGreatOX29
import Derived.Test.YtjffkeoajkhbmaaGreatOX30
namespace Go.Proofs.YtjffkeoajkhbmaaGreat
set_option linter.unusedSimpArgs false
set_option linter.unusedVariables false
set_option maxRecDepth 100000
set_option maxHeartbeats 8000000
section
open Go.RowKit Go.Proofs
def relR (f:Nat->Nat) (r:Reveal):Reveal:=⟨r.name,r.full,(f r.type.toNat:Int)⟩
theorem nth_map9 {α:Type} [Inhabited α] (F:α->α) (l:List α) {i:Nat} (hi:i<l.length):nth (l.map F) i=F (nth l i):=by
 rw [nth_eq (by rw [List.length_map]; exact hi),nth_eq hi,List.getElem_map]
theorem rel_rev {f:Nat->Nat} {rs:List Reveal} {k:Nat} (hk:k<rs.length):nth (rs.map (relR f)) k=relR f (nth rs k):=nth_map9 _ _ hk
theorem rel_full {f:Nat->Nat} {rs:List Reveal} {k:Nat} (hk:k<=rs.length) (name:BA):fullB (rs.map (relR f)) k name=fullB rs k name:=by
 unfold fullB;rw [Bool.eq_iff_iff,List.any_eq_true,List.any_eq_true];constructor
 ·rintro ⟨i,hi,h⟩;rw [rel_rev (by have:=List.mem_range.1 hi; omega)] at h;exact ⟨i,hi,h⟩
 ·rintro ⟨i,hi,h⟩;refine ⟨i,hi,?_⟩;rw [rel_rev (by have:=List.mem_range.1 hi; omega)];exact h
theorem rel_byN {f:Nat->Nat} {rs:List Reveal} (name:BA):byN (rs.map (relR f)) (rs.map (relR f)).length name=byN rs rs.length name:=by
 unfold byN;rw [List.length_map];refine List.filter_congr (fun i hi=>?_);rw [rel_rev (List.mem_range.1 hi)]
 rfl
section
variable {f:Nat->Nat} {g h:List Ty} {rs:List Reveal}
theorem Morph.bad (m:Morph f g h) {k:Nat} (hk:k<rs.length) (ht:0<=(nth rs k).type/\(nth rs k).type<g.length):badRev h (rs.map (relR f)) k=badRev g rs k:=by
 have h1:hasI g.length (nth rs k).type=true:=by unfold hasI; simp; omega
 have h2:=m.has h1;unfold badRev;rw [rel_rev hk,rel_full (by omega)];show (!isSymbolB (nth rs k).name||!hasI h.length (f (nth rs k).type.toNat:Int)||isWordB (nth h (f (nth rs k).type.toNat:Int).toNat).kind||(nth h (f (nth rs k).type.toNat:Int).toNat).kind==5 ||
  ((nth rs k).full&&(!(nth h (f (nth rs k).type.toNat:Int).toNat).branded||fullB rs k (nth rs k).name)))=_
 rw [h1,h2,Int.toNat_natCast,m.ty _ (show (nth rs k).type.toNat<g.length by omega)]
 rfl
theorem Morph.ups (m:Morph f g h) {t:Nat} (ht:t<g.length):upsL h (rs.map (relR f)) (f t)=(upsL g rs t).map f:=by
 unfold upsL;rw [m.ty t ht,rel_kind,rel_super];show (if hasSuperB (nth g t).kind then _ :: (if (nth g t).kind=13 then (byN _ _ (nth g t).opq).map _ else []) else [])=_
 cases hs:hasSuperB (nth g t).kind
 ·rfl
 ·simp only [if_true,Int.toNat_natCast,List.map_cons]
  congr 1
  by_cases h13:(nth g t).kind=13
  ·rw [if_pos h13,if_pos h13,rel_byN,List.map_map];refine List.map_congr_left (fun i hi=>?_);have hi:=byN_lt hi;rw [rel_rev hi];show (f (nth rs i).type.toNat:Int).toNat=f (nth rs i).type.toNat
   rw [Int.toNat_natCast]
  ·rw [if_neg h13,if_neg h13]; rfl
theorem Morph.circle (m:Morph f g h) (hg:(checkB g).2=0) (hh:(checkB h).2=0) (ht:∀ k,k<rs.length->0<=(nth rs k).type/\(nth rs k).type<g.length) :
  circB (succC h (classesOf h) (rs.map (relR f))) h.length (classesOf h)=circB (succC g (classesOf g) rs) g.length (classesOf g):=by
 obtain ⟨_,h1,_⟩:=check_ok hg;obtain ⟨_,k1,_⟩:=check_ok hh;have ht2:∀ k,k<(rs.map (relR f)).length->0<=(nth (rs.map (relR f)) k).type/\(nth (rs.map (relR f)) k).type<h.length:=fun k hk=>by
  rw [List.length_map] at hk;rw [rel_rev hk];have:=m.lt (nth rs k).type.toNat (by have:=ht k hk; omega);show 0<=(f (nth rs k).type.toNat:Int)/\(f (nth rs k).type.toNat:Int)<_
  omega
 rw [Bool.eq_iff_iff,circ_iff k1 ht2,circ_iff h1 ht];have fwd:∀ x u,u∈succC g (classesOf g) rs x->∀ a,a<g.length->classesOf g a=x->∃ b,b<g.length/\classesOf g b=u/\classesOf h (f b)∈succC h (classesOf h) (rs.map (relR f)) (classesOf h (f a)):=fun x u hu a ha hax=>by
  obtain ⟨t,b,ht1,hc,hb,rfl⟩:=mem_succC.1 hu;have hbl:=up_lt h1 ht t ht1 b hb;refine ⟨b,hbl,rfl,mem_succC.2 ⟨f t,f b,m.lt t ht1,(m.same hg hh ht1 ha).2 (by rw [hc,hax]),?_,rfl⟩⟩;rw [m.ups ht1];exact List.mem_map.2 ⟨b,hb,rfl⟩
 have bwd:∀ x u,u∈succC h (classesOf h) (rs.map (relR f)) x->∀ a,a<g.length->classesOf h (f a)=x->∃ b,b<g.length/\classesOf h (f b)=u/\classesOf g b∈succC g (classesOf g) rs (classesOf g a):=fun x u hu a ha hax=>by
  obtain ⟨t',b',ht1,hc,hb,rfl⟩:=mem_succC.1 hu;obtain ⟨t,ht2,rfl⟩:=m.onto t' ht1;rw [m.ups ht2] at hb;obtain ⟨b,hb2,rfl⟩:=List.mem_map.1 hb;have hb:=hb2;have hbl:=up_lt h1 ht t ht2 b hb;exact ⟨b,hbl,rfl,mem_succC.2 ⟨t,b,ht2,(m.same hg hh ht2 ha).1 (by rw [hc,hax]),hb2,rfl⟩⟩
 have wf:∀ x y,Way (succC g (classesOf g) rs) x y->∀ a,a<g.length->classesOf g a=x->∃ b,b<g.length/\classesOf g b=y/\Way (succC h (classesOf h) (rs.map (relR f))) (classesOf h (f a)) (classesOf h (f b)):=fun x y w a ha hax=>by
  induction w with
  | one hu =>
   obtain ⟨b,h2,h3,h4⟩:=fwd _ _ hu a ha hax;exact ⟨b,h2,h3,.one h4⟩
  | step _ hu ih =>
   obtain ⟨b,h2,h3,h4⟩:=ih;obtain ⟨c,h5,h6,h7⟩:=fwd _ _ hu b h2 h3;exact ⟨c,h5,h6,h4.step h7⟩
 have wb:∀ x y,Way (succC h (classesOf h) (rs.map (relR f))) x y->∀ a,a<g.length->classesOf h (f a)=x->∃ b,b<g.length/\classesOf h (f b)=y/\Way (succC g (classesOf g) rs) (classesOf g a) (classesOf g b):=fun x y w a ha hax=>by
  induction w with
  | one hu =>
   obtain ⟨b,h2,h3,h4⟩:=bwd _ _ hu a ha hax;exact ⟨b,h2,h3,.one h4⟩
  | step _ hu ih =>
   obtain ⟨b,h2,h3,h4⟩:=ih;obtain ⟨c,h5,h6,h7⟩:=bwd _ _ hu b h2 h3;exact ⟨c,h5,h6,h4.step h7⟩
 have rep:∀ {g:List Ty} {rs:List Reveal} {x:Nat},Way (succC g (classesOf g) rs) x x->∃ a,a<g.length/\classesOf g a=x:=fun {g rs x} w=>by
  obtain ⟨u,hu⟩:=List.exists_mem_of_ne_nil _ w.some;obtain ⟨t,b,ht,hc,_⟩:=mem_succC.1 hu;exact ⟨t,ht,hc⟩
 constructor
 ·rintro ⟨x,hx,w⟩;obtain ⟨a',ha',rfl⟩:=rep w;obtain ⟨a,ha,rfl⟩:=m.onto a' ha';obtain ⟨b,h2,h3,h4⟩:=wb _ _ w a ha rfl;rw [(m.same hg hh h2 ha).1 h3] at h4;exact ⟨_,Nat.lt_of_le_of_lt (classesOf_le g a) ha,h4⟩
 ·rintro ⟨x,hx,w⟩;obtain ⟨a,ha,rfl⟩:=rep w;obtain ⟨b,h2,h3,h4⟩:=wf _ _ w a ha rfl;rw [(m.same hg hh h2 ha).2 h3] at h4;exact ⟨_,Nat.lt_of_le_of_lt (classesOf_le h (f a)) (m.lt a ha),h4⟩
theorem Morph.opn (m:Morph f g h) (hg:(checkB g).2=0) (hh:(checkB h).2=0) (ht:∀ k,k<rs.length->0<=(nth rs k).type/\(nth rs k).type<g.length):openE h (rs.map (relR f))=openE g rs:=by
 have hb:(List.range (rs.map (relR f)).length).any (badRev h (rs.map (relR f)))=(List.range rs.length).any (badRev g rs):=by
  rw [List.length_map,Bool.eq_iff_iff,List.any_eq_true,List.any_eq_true];constructor
  ·rintro ⟨i,hi,h⟩;have hk:=List.mem_range.1 hi;rw [m.bad hk (ht i hk)] at h;exact ⟨i,hi,h⟩
  ·rintro ⟨i,hi,h⟩;have hk:=List.mem_range.1 hi;refine ⟨i,hi,?_⟩;rw [m.bad hk (ht i hk)];exact h
 unfold openE;rw [if_pos hg,if_pos hh,hb,m.circle hg hh ht,List.length_map]
theorem Morph.lies (m:Morph f g h) (hg:openE g rs=0) (hh:openE h (rs.map (relR f))=0) {a b:Nat} (ha:a<g.length) (hb:b<g.length):Lies h (rs.map (relR f)) (f a) (f b)↔Lies g rs a b:=by
 obtain ⟨cg,_,_,hr,hbad⟩:=opens hg;obtain ⟨ch,_,_,kr,kbad⟩:=opens hh;have ht:∀ k,k<rs.length->0<=(nth rs k).type/\(nth rs k).type<g.length:=fun k hk=>rev_in (hbad k hk);have hso:=succ_ok hg;have key:∀ x y,x<g.length->y<g.length->f x=f y->Lies g rs x y:=fun x y hx hy e=>same_lies hy ((m.same cg ch hx hy).1 (by rw [e]));have bwd:∀ a u,a<g.length->u∈succF h (classesOf h) (rs.map (relR f)) (f a)->∃ b,b<g.length/\f b=u/\Lies g rs a b:=fun a u ha hu=>by
  obtain ⟨s,hs,rfl⟩:=List.mem_map.1 hu;rcases mem_steps.1 hs with ⟨_,_,h1,h2⟩ | ⟨_,_,h1,h2,h3⟩ | ⟨_,_,h1,h2,h3⟩ | ⟨_,_,h1,h2⟩ | ⟨_,h0,h1,h2,h3⟩ | ⟨_,h0,h1,h2,h3,h4,h5⟩ | ⟨_,_,h1,h2⟩
  ·obtain ⟨b,hb,e⟩:=m.onto _ h1;rw [<- e] at h2 ⊢;exact ⟨b,hb,rfl,same_lies hb ((m.same cg ch hb ha).1 h2).symm⟩
  ·obtain ⟨b,hb,e⟩:=m.onto _ h1;rw [<- e,m.ty a ha,m.ty b hb] at h3;rw [m.ty a ha] at h2;exact ⟨b,hb,e,step_lies (s:=⟨2,b,0⟩) (Or.inr (Or.inl ⟨rfl,rfl,hb,h2,h3⟩))⟩
  ·obtain ⟨b,hb,e⟩:=m.onto _ h1;rw [<- e,m.ty b hb] at h3;rw [m.ty a ha] at h2;exact ⟨b,hb,e,step_lies (s:=⟨3,b,0⟩) (Or.inr (Or.inr (Or.inl ⟨rfl,rfl,hb,h2,h3⟩)))⟩
  ·rw [m.ty a ha,rel_kind] at h1;rw [m.ty a ha,rel_super,h1,if_pos rfl,Int.toNat_natCast] at h2;have:=right_super (hr a ha) h1;exact ⟨(nth g a).super.toNat,by omega,h2.symm,step_lies (s:=⟨4,_,0⟩) (Or.inr (Or.inr (Or.inr (Or.inl ⟨rfl,rfl,h1,rfl⟩))))⟩
  ·rw [List.length_map] at h0;rw [rel_rev h0] at h2 h3;rw [m.ty a ha] at h1 h2;have:=ht s.n h0;exact ⟨(nth rs s.n).type.toNat,by omega,by rw [h3]; show f _=(f _:Int).toNat; rw [Int.toNat_natCast],step_lies (s:=⟨5,_,s.n⟩) (Or.inr (Or.inr (Or.inr (Or.inr (Or.inl ⟨rfl,h0,h1,h2,rfl⟩)))))⟩
  ·rw [List.length_map] at h0;rw [rel_rev h0] at h2 h3 h5;obtain ⟨b,hb,e⟩:=m.onto _ h1;rw [<- e,m.ty b hb] at h4 h5;have h6:=ht s.n h0;have h3:f (nth rs s.n).type.toNat=f a:=by have:(f (nth rs s.n).type.toNat:Int)=(f a:Int):=h3; omega
   have l1:=key a _ ha (show (nth rs s.n).type.toNat<g.length by omega) h3.symm;exact ⟨b,hb,e,l1.trans (step_lies (s:=⟨6,b,s.n⟩) (Or.inr (Or.inr (Or.inr (Or.inr (Or.inr (Or.inl ⟨rfl,h0,hb,h2,(Int.toNat_of_nonneg h6.1).symm,h4,h5⟩)))))))⟩
  ·obtain ⟨b,hb,e⟩:=m.onto _ h1;rw [<- e,m.ty a ha,m.ty b hb] at h2;exact ⟨b,hb,e,step_lies (s:=⟨7,b,0⟩) (Or.inr (Or.inr (Or.inr (Or.inr (Or.inr (Or.inr ⟨rfl,rfl,hb,h2⟩))))))⟩
 have fwd:∀ a u,a<g.length->u∈succF g (classesOf g) rs a->f u∈succF h (classesOf h) (rs.map (relR f)) (f a):=fun a u ha hu=>by
  have hul:=hso a ha u hu;obtain ⟨s,hs,rfl⟩:=List.mem_map.1 hu;refine List.mem_map.2 ⟨⟨s.rule,f s.to_,s.n⟩,mem_steps.2 ?_,rfl⟩;have hl:=m.lt _ hul;rcases mem_steps.1 hs with ⟨r1,r2,h1,h2⟩ | ⟨r1,r2,h1,h2,h3⟩ | ⟨r1,r2,h1,h2,h3⟩ | ⟨r1,r2,h1,h2⟩ | ⟨r1,h0,h1,h2,h3⟩ | ⟨r1,h0,h1,h2,h3,h4,h5⟩ | ⟨r1,r2,h1,h2⟩
  ·exact Or.inl ⟨r1,r2,hl,(m.same cg ch hul ha).2 h2⟩
  ·exact Or.inr (Or.inl ⟨r1,r2,hl,by rw [m.ty a ha]; exact h2,by show widerB (nth h (f a)) (nth h (f s.to_))=true; rw [m.ty a ha,m.ty _ hul]; exact h3⟩)
  ·exact Or.inr (Or.inr (Or.inl ⟨r1,r2,hl,by rw [m.ty a ha]; exact h2,by show isWordB (nth h (f s.to_)).kind=false; rw [m.ty _ hul]; exact h3⟩))
  ·exact Or.inr (Or.inr (Or.inr (Or.inl ⟨r1,r2,by rw [m.ty a ha]; exact h1,by rw [m.ty a ha,rel_super,h1,if_pos rfl,Int.toNat_natCast]; show f s.to_=_; rw [h2]⟩)))
  ·exact Or.inr (Or.inr (Or.inr (Or.inr (Or.inl ⟨r1,by rw [List.length_map]; exact h0,by rw [m.ty a ha]; exact h1,by show (nth (rs.map (relR f)) s.n).name=_; rw [rel_rev h0,m.ty a ha]; exact h2,by show f s.to_=(nth (rs.map (relR f)) s.n).type.toNat; rw [rel_rev h0,h3]; show f _=(f _:Int).toNat; rw [Int.toNat_natCast]⟩))))
  ·refine Or.inr (Or.inr (Or.inr (Or.inr (Or.inr (Or.inl ⟨r1,by rw [List.length_map]; exact h0,hl,?_,?_,?_,?_⟩)))))
   ·show (nth (rs.map (relR f)) s.n).full=true; rw [rel_rev h0]; exact h2
   ·show (nth (rs.map (relR f)) s.n).type=_; rw [rel_rev h0]; show (f (nth rs s.n).type.toNat:Int)=_; rw [h3,Int.toNat_natCast]
   ·show (nth h (f s.to_)).kind=13; rw [m.ty _ hul]; exact h4
   ·show (nth h (f s.to_)).opq=(nth (rs.map (relR f)) s.n).name; rw [rel_rev h0,m.ty _ hul]; exact h5
  ·exact Or.inr (Or.inr (Or.inr (Or.inr (Or.inr (Or.inr ⟨r1,r2,hl,by show anyP (anyTo (nth h (f a)).kind) (nth h (f s.to_)).kind=true; rw [m.ty a ha,m.ty _ hul]; exact h2⟩)))))
 constructor
 ·intro w;have:∀ u,Lies h (rs.map (relR f)) (f a) u->∃ b,b<g.length/\f b=u/\Lies g rs a b:=fun u w=>by
   induction w with
   | refl=>exact ⟨a,ha,rfl,Reach.refl⟩
   | step _ hu ih =>
    obtain ⟨b,h1,h2,h3⟩:=ih;rw [<- h2] at hu;obtain ⟨c,h4,h5,h6⟩:=bwd b _ h1 hu;exact ⟨c,h4,h5,h3.trans h6⟩
  obtain ⟨c,h1,h2,h3⟩:=this _ w;exact h3.trans (key c b h1 hb h2)
 ·intro w;have:∀ u,Lies g rs a u->u<g.length/\Lies h (rs.map (relR f)) (f a) (f u):=fun u w=>by
   induction w with
   | refl=>exact ⟨ha,Reach.refl⟩
   | step _ hu ih=>exact ⟨hso _ ih.1 _ hu,ih.2.step (fwd _ _ ih.1 hu)⟩
  exact (this b w).2
end
end
section
open Go.RowKit Go.Proofs
def EnvR (w:World) (vb:Nat) (g:List Ty) (rs:List Reveal) (C:Nat->Nat):Prop :=
 ∃ ga gc ra rc ca cc,w.cell? ⟨vb,0,none⟩=some (.slice ga g.length gc)/\w.cell? ⟨vb,1,none⟩=some (.slice ra rs.length rc)/\w.cell? ⟨vb,2,none⟩=some (.slice ca g.length cc) /\
  Graph w (.slice ga g.length gc) g/\Reveals w (.slice ra rs.length rc) rs/\Ints w (.slice ca g.length cc) ((List.range g.length).map fun i=>(C i:Int))
theorem EnvR.mono {w w':World} {vb:Nat} {g:List Ty} {rs:List Reveal} {C:Nat->Nat} (h:EnvR w vb g rs C) (hE:Ext w w'):EnvR w' vb g rs C:=by
 obtain ⟨ga,gc,ra,rc,ca,cc,h1,h2,h3,h4,h5,h6⟩:=h;exact ⟨ga,gc,ra,rc,ca,cc,hE.cell h1,hE.cell h2,hE.cell h3,Graph.mono hE h4,Reveals.mono hE h5,Ints.mono hE h6⟩
end
section
open Go.RowKit Go.Proofs
instance (g:List Ty) (C:Nat->Nat) (rs:List Reveal) (x:Nat) (s:Stp):Decidable (StepOk g C rs x s):=by unfold StepOk; exact inferInstance
section
variable {g:List Ty} {C:Nat->Nat} {rs:List Reveal} {a z:Nat}
end
end
section
open Go.RowKit Go.Proofs
structure BfsF (W0 wx:World) (n:Nat) (f:Nat->Int) (v:Value) (Q:List Nat):Prop where
 ext:Ext W0 wx
 row:RowI wx W0.heap.size n f
 que:Tail wx (W0.heap.size+1) v Q
section
variable {W0 wx:World} {n:Nat} {f:Nat->Int} {v:Value} {Q:List Nat}
theorem BfsF.mono {w2:World} (h:BfsF W0 wx n f v Q) (hE:Ext wx w2):BfsF W0 w2 n f v Q:=⟨h.ext.trans hE,h.row.ext hE,h.que.ext hE⟩
theorem BfsF.set (h:BfsF W0 wx n f v Q) (u:Nat) (x:Int):BfsF W0 (wx.setCell ⟨W0.heap.size,u,none⟩ (.int .i64 x)) n (setF f u x) v Q :=
 ⟨Below.setCell h.ext (Nat.le_refl _) _,h.row.set u x,h.que.kept (fun g hg=>Below.heap_setCell _ _ _ _ (by have:=h.que.own hg; show g≠W0.heap.size; omega))⟩
theorem BfsF.start (W0:World) (n a:Nat) (f:Nat->Int) {wx:World} (hE:Ext W0 wx) (hr:RowI wx W0.heap.size n f):BfsF W0 (wx.alloc (.cells #[.int .i64 a] 3)) n f (.slice (some ⟨wx.heap.size,0,none⟩) 1 1) [a] :=
 ⟨hE.trans (Ext.alloc _ _),hr.ext (Ext.alloc _ _),wx.heap.size,0,1,_,rfl,hr.lt,heap_alloc_new _ _,by simp,by unfold maxLen; omega,Or.inr ⟨by simp,by simp⟩,fun i x hx=>by
  match i,hx with
  | 0,hx=>simp at hx; subst hx; simp⟩
end
def RowN (n:Nat) (b:Nat) (cs:List Value):Prop:=cs=[.slice (some ⟨b,0,none⟩) n n]
structure FarI (w wr:World) (vb n:Nat) (gv rv:Value) (r:Nat) (C:Nat->Nat) (t:Nat) (rb:Nat->Nat) (F:Nat->Nat->Bool) (fv:Value) (fbs:List Nat) (D:Nat->Nat->Int):Prop where
 ext:Ext w wr
 vlo:w.heap.size<=vb
 env:wr.heap[vb]? = some (.cells #[gv,rv,.slice (some ⟨r,0,none⟩) n n,fv] 107 (0,0))
 cls:RowI wr r n fun i=>(C i:Int)
 mat:Mat w wr t n n rb F
 own:OwnL (RowN n) 35 1 wr w.heap.size fv fbs
 rows:∀ i,i<fbs.length->RowI wr (nth fbs i) n (D i)
section
variable {w wr:World} {vb n r t:Nat} {gv rv fv:Value} {C:Nat->Nat} {rb:Nat->Nat} {F:Nat->Nat->Bool} {fbs:List Nat} {D:Nat->Nat->Int}
theorem FarI.mono {w2:World} (h:FarI w wr vb n gv rv r C t rb F fv fbs D) (hE:Ext wr w2):FarI w w2 vb n gv rv r C t rb F fv fbs D :=
 ⟨h.ext.trans hE,h.vlo,(hE.block _ (row_lt h.env)).trans h.env,h.cls.ext hE,h.mat.mono hE,own_later h.own hE,fun i hi=>(h.rows i hi).ext hE⟩
theorem own_type {α:Type} {R:α->List Value->Prop} {e:TypeId} {sz:Nat} {w:World} {base:Nat} {v:Value} {xs:List α} (h:OwnL R e sz w base v xs) {b:Nat} (hb:v.ownBlock=some b):∃ cur,w.heap[b]? = some (.cells cur e (0,0)):=by
 obtain ⟨css,_,_,_,hrow⟩:=h;rcases hrow.2 with ⟨rfl,_⟩ | ⟨g,cap,cur,rfl,_,hg,_⟩
 ·cases hb
 ·cases hb; exact ⟨cur,hg⟩
theorem ne_type {w:World} {a b:Nat} {x y:Array Value} {T U:TypeId} (ha:w.heap[a]? = some (.cells x T (0,0))) (hb:w.heap[b]? = some (.cells y U (0,0))) (h:T≠U):a≠b:=fun e=>by
 subst e;rw [ha] at hb;injection hb with hb
 injection hb with _ hb _
 exact h hb
theorem FarI.push {w1 w2:World} {v':Value} {fb:Nat} {f:Nat->Int} (h:FarI w w1 vb n gv rv r C t rb F fv fbs D) (hf:RowI w1 fb n f) (hO:OwnL (RowN n) 35 1 w2 w.heap.size v' (fbs++[fb])) (hg:w1.grownBy w2 fv.ownBlock) :
  FarI w (w2.setCell ⟨vb,3,none⟩ v') vb n gv rv r C t rb F v' (fbs++[fb]) (fun i=>if i=fbs.length then f else D i):=by
 have keep:∀ (j:Nat) (cs:Array Value) (T:TypeId),w1.heap[j]? = some (.cells cs T (0,0))->T≠35->w2.heap[j]? = some (.cells cs T (0,0)):=fun j cs T hj hT =>
  (hg.block j (row_lt hj) (fun e=>by
   obtain ⟨cur,hc⟩:=own_type h.own e.symm;exact ne_type hj hc hT rfl)).trans hj
 have henv:=keep vb _ _ h.env (by decide);have out:∀ (j:Nat) (cs:Array Value) (T:TypeId),w1.heap[j]? = some (.cells cs T (0,0))->T≠35->T≠107->(w2.setCell ⟨vb,3,none⟩ v').heap[j]? = some (.cells cs T (0,0)):=fun j cs T hj h1 h2 =>
  (Below.heap_setCell _ _ _ _ (fun e=>by
   have e:j=vb:=e;exact ne_type hj h.env h2 e)).trans (keep j cs T hj h1)
 have hE2:Ext w w2:=h.ext.grown hg h.ext.size (fun q e=>(h.own.lt q e).1);refine ⟨Below.setCell hE2 h.vlo _,h.vlo,?_,out _ _ _ h.cls (by decide) (by decide),?_,?_,fun i hi=>?_⟩
 ·have:=row_set (j:=3) (v:=v') henv
  simpa using this
 ·refine h.mat.other (Below.setCell hE2 h.vlo _) (fun j hj=>?_);rcases hj with rfl | ⟨i,hi,rfl⟩
  ·rw [out _ _ _ h.mat.tab (by decide) (by decide),h.mat.tab]
  ·rw [out _ _ _ (h.mat.row i hi) (by decide) (by decide)];exact (h.mat.row i hi).symm
 ·refine hO.kept (grownBy_setB w2 vb 3 v') ?_;cases hv:v'.ownBlock with
  | none=>exact Or.inl rfl
  | some k =>
   refine Or.inr (fun e=>?_);have e:=Option.some.inj e;obtain ⟨cur,hc⟩:=own_type hO hv;exact ne_type hc henv (by decide) e
 ·rw [List.length_append,List.length_singleton] at hi;by_cases e:i=fbs.length
  ·subst e;rw [nth_eq (by simp)];simp only [if_true,List.getElem_concat_length];exact out _ _ _ hf (by decide) (by decide)
  ·rw [nth_eq (by simp; omega),List.getElem_append_left (by omega),<- nth_eq (by omega)];simp only [if_neg e];exact out _ _ _ (h.rows i (by omega)) (by decide) (by decide)
end
def EnvF (w:World) (vb:Nat) (g:List Ty) (rs:List Reveal) (C:Nat->Nat) (D:Nat->Nat->Int):Prop :=
 EnvR w vb g rs C/\∃ fa fc,w.cell? ⟨vb,3,none⟩=some (.slice fa g.length fc)/\∀ i,i<g.length->∃ b off fb,fa=some ⟨b,off,none⟩/\w.cell? ⟨b,off+i,none⟩=some (.slice (some ⟨fb,0,none⟩) g.length g.length) /\
  ∀ j,j<g.length->w.cell? ⟨fb,j,none⟩=some (.int .i64 (D i j))
theorem EnvF.mono {w w':World} {vb:Nat} {g:List Ty} {rs:List Reveal} {C:Nat->Nat} {D:Nat->Nat->Int} (h:EnvF w vb g rs C D) (hE:Ext w w'):EnvF w' vb g rs C D:=by
 obtain ⟨h1,fa,fc,h2,h3⟩:=h;refine ⟨h1.mono hE,fa,fc,hE.cell h2,fun i hi=>?_⟩;obtain ⟨b,off,fb,e,h4,h5⟩:=h3 i hi;exact ⟨b,off,fb,e,hE.cell h4,fun j hj=>hE.cell (h5 j hj)⟩
theorem FarI.env_of {w wr:World} {vb r t:Nat} {g:List Ty} {rs:List Reveal} {fv:Value} {C:Nat->Nat} {rb:Nat->Nat} {F:Nat->Nat->Bool} {fbs:List Nat} {D:Nat->Nat->Int} {ga ra:Option Addr} {gc rc:Nat}
  (h:FarI w wr vb g.length (.slice ga g.length gc) (.slice ra rs.length rc) r C t rb F fv fbs D) (hg:Graph w (.slice ga g.length gc) g) (hre:Reveals w (.slice ra rs.length rc) rs) (hC:∀ i,C i<=i) (h400:g.length<=400):EnvR wr vb g rs C :=
 ⟨ga,gc,ra,rc,_,_,row_cell h.env rfl,row_cell h.env rfl,row_cell h.env rfl,Graph.mono h.ext hg,Reveals.mono h.ext hre,h.cls.ints (by unfold maxBytes; omega) (fun i hi=>by have:=hC i; omega)⟩
theorem FarI.done {w wr:World} {vb r t:Nat} {g:List Ty} {rs:List Reveal} {fv:Value} {C:Nat->Nat} {rb:Nat->Nat} {F:Nat->Nat->Bool} {fbs:List Nat} {D:Nat->Nat->Int} {ga ra:Option Addr} {gc rc:Nat}
  (h:FarI w wr vb g.length (.slice ga g.length gc) (.slice ra rs.length rc) r C t rb F fv fbs D) (hl:fbs.length=g.length) (hg:Graph w (.slice ga g.length gc) g) (hre:Reveals w (.slice ra rs.length rc) rs) (hC:∀ i,C i<=i) (h400:g.length<=400):EnvF wr vb g rs C D:=by
 have hs:=h.own.slw (by rw [hl]; unfold maxBytes; omega);obtain ⟨fa,fc,rfl,_,_,hx⟩:=id hs;refine ⟨h.env_of hg hre hC h400,fa,fc,by have:=row_cell h.env (j:=3) rfl; rw [hl] at this; exact this,fun i hi=>?_⟩;obtain ⟨b,off,cs,ha,hr,_,hc⟩:=hx i (nth fbs i) (get_of_lt (by omega));have h0:=hc 0 _ (by rw [show cs=_ from hr]; rfl);rw [show off+i*1+0=off+i by omega] at h0;exact ⟨b,off,nth fbs i,ha,h0,fun j hj=>(h.rows i (by omega)).cell hj⟩
def EnvT (w:World) (vb:Nat) (g:List Ty) (rs:List Reveal) (C:Nat->Nat) (D:Nat->Nat->Int) (ga:Option Addr) (gc:Nat) (ra:Option Addr) (rc:Nat):Prop :=
 ∃ r fv fbs B,w.heap[vb]? = some (.cells #[.slice ga g.length gc,.slice ra rs.length rc,.slice (some ⟨r,0,none⟩) g.length g.length,fv] 107 (0,0))/\RowI w r g.length (fun i=>(C i:Int)) /\
  OwnL (RowN g.length) 35 1 w B fv fbs/\fbs.length=g.length/\∀ i,i<fbs.length->RowI w (nth fbs i) g.length (D i)
theorem EnvT.env {w:World} {vb:Nat} {g:List Ty} {rs:List Reveal} {C:Nat->Nat} {D:Nat->Nat->Int} {ga ra:Option Addr} {gc rc:Nat}
  (h:EnvT w vb g rs C D ga gc ra rc) (hg:Graph w (.slice ga g.length gc) g) (hre:Reveals w (.slice ra rs.length rc) rs) (hC:∀ i,C i<=i) (h400:g.length<=400):EnvF w vb g rs C D:=by
 obtain ⟨r,fv,fbs,B,henv,hcls,hown,hl,hrows⟩:=h;have hs:=hown.slw (by rw [hl]; unfold maxBytes; omega);obtain ⟨fa,fc,rfl,_,_,hx⟩:=id hs;refine ⟨⟨ga,gc,ra,rc,_,_,row_cell henv rfl,row_cell henv rfl,row_cell henv rfl,hg,hre,hcls.ints (by unfold maxBytes; omega) (fun i hi=>by have:=hC i; omega)⟩,fa,fc,by have:=row_cell henv (j:=3) rfl; rw [hl] at this; exact this,fun i hi=>?_⟩;obtain ⟨b,off,cs,ha,hr,_,hc⟩:=hx i (nth fbs i) (get_of_lt (by omega));have h0:=hc 0 _ (by rw [show cs=_ from hr]; rfl);rw [show off+i*1+0=off+i by omega] at h0;exact ⟨b,off,nth fbs i,ha,h0,fun j hj=>(hrows i (by omega)).cell hj⟩
end
section
open Go.RowKit Go.Proofs
def putB (f:Nat->Bool) (j:Nat) (v:Bool):Nat->Bool:=fun i=>if i=j then v else f i
theorem RowT.put {w:World} {b n:Nat} {f:Nat->Bool} (h:RowT w b n f) (j:Nat) (v:Bool):RowT (w.setCell ⟨b,j,none⟩ (.bool v)) b n (putB f j v):=by
 have:=row_set (j:=j) (v:=.bool v) h;unfold RowT;rw [this]
 congr 2
 unfold bRow putB;apply Array.ext
 ·simp
 ·intro i h1 h2;simp only [List.setIfInBounds_toArray,List.getElem_toArray,List.getElem_set,List.getElem_map,List.getElem_range];by_cases hij:i=j
  ·subst hij; simp
  ·rw [if_neg (fun e=>hij e.symm),if_neg hij]
section
variable {w wr:World} {t n k:Nat} {rb:Nat->Nat} {F:Nat->Nat->Bool}
theorem Mat.put (h:Mat w wr t n k rb F) {x:Nat} (hx:x<k) (y:Nat) (v:Bool):Mat w (wr.setCell ⟨rb x,y,none⟩ (.bool v)) t n k rb (fun i=>if i=x then putB (F x) y v else F i):=by
 refine ⟨Below.setCell h.ext (h.rlo x hx) _,(Below.heap_setCell _ _ _ _ (fun e=>h.net hx e.symm)).trans h.tab,h.lo,fun i hi=>?_,h.rlo,h.inj⟩;by_cases e:i=x
 ·subst e;simp only [if_true];exact (h.row i hi).put y v
 ·simp only [if_neg e];exact (Below.heap_setCell _ _ _ _ (fun e2=>e (h.inj i x hi hx e2))).trans (h.row i hi)
theorem Mat.base {w0:World} (h:Mat w wr t n k rb F) (hE:Ext w0 w):Mat w0 wr t n k rb F :=
 ⟨hE.trans h.ext,h.tab,Nat.le_trans hE.size h.lo,h.row,fun i hi=>Nat.le_trans hE.size (h.rlo i hi),h.inj⟩
end
end
section
open Go.RowKit Go.Proofs
section
variable {W:World} {vb:Nat} {g:List Ty} {rs:List Reveal} {C:Nat->Nat} {D:Nat->Nat->Int}
theorem EnvF.rows (h:EnvF W vb g rs C D) (hn:0<g.length):∃ fb fo fc,∃ row:Nat->Nat,W.cell? ⟨vb,3,none⟩=some (.slice (some ⟨fb,fo,none⟩) g.length fc) /\
  (∀ i,i<g.length->W.cell? ⟨fb,fo+i,none⟩=some (.slice (some ⟨row i,0,none⟩) g.length g.length))/\∀ i,i<g.length->∀ j,j<g.length->W.cell? ⟨row i,j,none⟩=some (.int .i64 (D i j)):=by
 obtain ⟨_,fa,fc,h3,hr⟩:=h;obtain ⟨fb,fo,_,rfl,_,_⟩:=hr 0 hn;have key:∀ i,∃ r,i<g.length->W.cell? ⟨fb,fo+i,none⟩=some (.slice (some ⟨r,0,none⟩) g.length g.length)/\∀ j,j<g.length->W.cell? ⟨r,j,none⟩=some (.int .i64 (D i j)):=fun i=>by
  by_cases hi:i<g.length
  ·obtain ⟨b,off,r,e,h1,h2⟩:=hr i hi;cases e;exact ⟨r,fun _=>⟨h1,h2⟩⟩
  ·exact ⟨0,fun h=>absurd h hi⟩
 exact ⟨fb,fo,fc,fun i=>Classical.choose (key i),h3,fun i hi=>(Classical.choose_spec (key i) hi).1,fun i hi=>(Classical.choose_spec (key i) hi).2⟩
end
end
section
open Go.RowKit Go.Proofs Go.Shelf
def FewPost (w:World) (rs:List Reveal) (e:Ending) (w':World):Prop:=∃ b,e=.returned (.bool b)/\Ext w w'/\(b=true->(∀ i,i<rs.length->(nth rs i).name.size<=40)/\rs.length<=63)
theorem few14 (ra:Option Addr) (n c:Nat) (rs:List Reveal) (w:World) (hre:Reveals w (.slice ra n c) rs) :
  Calls Tryz.prog 14 #[.slice ra n c] w (FewPost w rs):=by
 have hb:=(SlW.bound hre).2;obtain rfl:=SlW.len hre;have Hre:=dh hre;clear hre
 go_enter Tryz.func14,Tryz.ntmps14
 go_upto_region 2 with (fail);go_loopw [3] (fun i wr=>∃ k:Nat,k<=rs.length/\i=.int .i64 k/\Hid (Ext w wr/\∀ j,j<k->(nth rs j).name.size<=40)) (fun i _=>rs.length-(intOf i).toNat)
 case atStart=>exact ⟨0,Nat.zero_le _,rfl,dh ⟨Ext.refl _,fun j hj=>by omega⟩⟩
 case round =>
  obtain ⟨k,hk,rfl,hH⟩:=hrel;obtain ⟨hE,hs⟩:=hH.out;clear hH;by_cases hlt:k<rs.length
  ·obtain ⟨b,off,rfl,hbl,d0,d1,d2,hsz,-⟩:=Reveals.at (Reveals.mono hE Hre.out) hlt;have HE:=dh hE;have HS:=dh hs;clear hE hs;by_cases h40:(nth rs k).name.size<=40
   ·go_wp2_with fail;go_roundw
    case rel=>exact ⟨k+1,by omega,by go_num,dh ⟨HE.out,fun j hj=>by
     by_cases hjk:j=k
     ·rw [hjk]; exact h40
     ·exact HS.out j (by omega)⟩⟩
    case measure=>simp [intOf]; omega
   ·go_wp2_with fail;go_ret;exact ⟨false,rfl,HE.out,fun h=>by cases h⟩
  ·have hkl:k=rs.length:=by omega
   subst hkl;have HE:=dh hE;have HS:=dh hs;clear hE hs;by_cases h10:rs.length<=10
   ·go_wp2_with fail;go_ret;exact ⟨_,rfl,HE.out,fun _=>⟨HS.out,by omega⟩⟩
   ·by_cases h60:rs.length<=63
    ·go_wp2_with fail
     all_goals go_ret
     all_goals exact ⟨_,rfl,HE.out,fun _=>⟨HS.out,h60⟩⟩
    ·go_wp2_with fail
     all_goals go_ret
     all_goals exact ⟨_,rfl,HE.out,fun h=>⟨HS.out,by simp at h; omega⟩⟩
end
section
open Go.RowKit Go.Proofs Go.Shelf
def SamePost (w:World) (xs ys:List Int) (e:Ending) (w':World):Prop:=e=.returned (.bool (decide (xs=ys)))/\Ext w w'
theorem sameInts23 (a:Option Addr) (n c:Nat) (b:Option Addr) (m d:Nat) (xs ys:List Int) (w:World) (hx:Ints w (.slice a n c) xs) (hy:Ints w (.slice b m d) ys) :
  Calls Tryz.prog 23 #[.slice a n c,.slice b m d] w (SamePost w xs ys):=by
 have hb1:=(SlW.bound hx).2;have hb2:=(SlW.bound hy).2;obtain rfl:=SlW.len hx;obtain rfl:=SlW.len hy;have Hx:=dh hx;have Hy:=dh hy;clear hx hy;by_cases hl:xs.length=ys.length
 ·have hne:((xs.length:Int) != (ys.length:Int))=false:=by rw [hl]; simp
  go_enter Tryz.func23,Tryz.ntmps23
  go_upto_region 4 with (fail);go_loopw [5] (fun i wr=>∃ k:Nat,k<=xs.length/\i=.int .i64 k/\Hid (Ext w wr/\∀ j,j<k->nth xs j=nth ys j)) (fun i _=>xs.length-(intOf i).toNat)
  case atStart=>exact ⟨0,Nat.zero_le _,rfl,dh ⟨Ext.refl _,fun j hj=>by omega⟩⟩
  case round =>
   obtain ⟨k,hk,rfl,hH⟩:=hrel;obtain ⟨hE,hs⟩:=hH.out;clear hH;have HS:=dh hs;have HE:=dh hE;clear hs;by_cases hlt:k<xs.length
   ·have hlt2:k<ys.length:=by omega
    obtain ⟨xb,xo,rfl,_,dx,-⟩:=Ints.at (Ints.mono hE Hx.out) hlt;obtain ⟨yb,yo,rfl,_,dy,-⟩:=Ints.at (Ints.mono hE Hy.out) hlt2;clear hE;cases he:(nth xs k != nth ys k)
    ·have hk2:nth xs k=nth ys k:=by simpa using he
     have Hk2:=dh hk2;clear hk2;go_upto_region 6 with (fail);refine Zr 99 ?_;change wpE _ _ _ _ _ _ _ _ (World.drew _);refine Zg 0 ?_;refine Zg 1 ?_;refine Zg 2 ?_;refine Zc 3 dx ?_;refine Zg 4 ?_;refine Zg 5 ?_;refine Zg 6 ?_;refine Zc 7 dy ?_;refine Zg 8 ?_;refine Zd ?_;clear dx dy;go_wp2_with fail;go_roundw
     case rel=>exact ⟨k+1,by omega,by go_num,dh ⟨by first | exact HE.out | exact HE.out.trans (Ext.drew _),fun j hj=>by
      by_cases hjk:j=k
      ·rw [hjk]; exact Hk2.out
      ·exact HS.out j (by omega)⟩⟩
     case measure=>simp [intOf]; omega
    ·have hd:=dh (show decide (xs=ys)=false by
      simp only [decide_eq_false_iff_not];intro h;rw [h] at he;simp at he)
     go_upto_region 6 with (fail);refine Zr 99 ?_;change wpE _ _ _ _ _ _ _ _ (World.drew _);refine Zg 0 ?_;refine Zg 1 ?_;refine Zg 2 ?_;refine Zc 3 dx ?_;refine Zg 4 ?_;refine Zg 5 ?_;refine Zg 6 ?_;refine Zc 7 dy ?_;refine Zg 8 ?_;refine Zd ?_;clear dx dy;go_wp2_with fail;go_ret;exact ⟨by rw [hd.out]; rfl,by first | exact HE.out | exact HE.out.trans (Ext.drew _)⟩
   ·have hd:=dh (show decide (xs=ys)=true by
     simp only [decide_eq_true_eq];refine List.ext_getElem hl (fun i h1 h2=>?_);have:=HS.out i (by omega)
     rwa [nth_eq h1,nth_eq h2] at this)
    clear hE;go_wp2_with fail;go_ret;exact ⟨by rw [hd.out]; rfl,HE.out⟩
 ·have hne:((xs.length:Int) != (ys.length:Int))=true:=by simp; omega
  have hd:=dh (show decide (xs=ys)=false by
   simp only [decide_eq_false_iff_not];intro h;rw [h] at hl;exact hl rfl)
  go_enter Tryz.func23,Tryz.ntmps23
  go_wp2_with fail;go_ret;exact ⟨by rw [hd.out]; rfl,Ext.refl _⟩
end
end Go.Proofs.YtjffkeoajkhbmaaGreat
