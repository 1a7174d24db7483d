/- sub.Derive: a shortest derivation. -/
import Derived.Sort.CutIn
import Derived.Test.YtjffkeoajkhbmaaGreatOX14
import Derived.Test.YtjffkeoajkhbmaaGreatOX18
import Derived.Test.YtjffkeoajkhbmaaGreatOX19
import Derived.Test.YtjffkeoajkhbmaaGreatOX20
namespace Go.Proofs.YtjffkeoajkhbmaaGreat
set_option linter.unusedSimpArgs false
set_option linter.unusedVariables false
set_option maxRecDepth 100000
set_option maxHeartbeats 8000000
open Go.RowKit Go.Proofs Go.Shelf
attribute [local go_sem] Oper.semAt_some
theorem wpIn_scope_wide {n:Nat} {P:Program} {c:Code} {Q:Exit->Act->World->Prop} {a:Act} {w:World} (h:c.wpIn Fence.wide n P (Exit.noGoto Q) a w):(Code.scope c).wpIn Fence.wide n P Q a w :=
 wpIn_wide.2 (wp_scope_straight (wpIn_wide.1 h))
theorem wpIn_cutR {F:Fence} {rm:Nat} {P:Program} {s:Code} {K:Act->World->Prop} {Q':Exit->Act->World->Prop} {a:Act} {w:World} (R:Act->World->Prop)
  (first:s.wpIn F rm P (Exit.then R Q') a w) (rest:∀ a' w',R a' w'->K a' w'):s.wpIn F rm P (Exit.then K Q') a w:=by
 refine wpIn_mono first ?_
 intro e a' w' hq;cases e with
 | normal=>exact rest _ _ hq
 | exit id=>exact hq
 | goto l=>exact hq
 | ret=>exact hq
 | panic ch=>exact hq
 | outgrown=>exact hq
abbrev stF (g:List Ty) (C:Nat->Nat) (rs:List Reveal) (x:Nat):List Stp:=stepsL g C rs x
def dvN (a x:Nat) {n:Nat} (pre:List (StpG n)) (s:Disc × List Nat):Disc × List Nat:=(pre.map (·.1)).foldl (dvis a x) s
theorem dvN_snoc {a x n:Nat} {pre:List (StpG n)} {y:StpG n} {s:Disc × List Nat} {D:Disc} {Q:List Nat} (h:dvN a x pre s=(D,Q)):dvN a x (pre++[y]) s=dvis a x (D,Q) y.1:=by
 unfold dvN at h ⊢;rw [List.map_append,List.foldl_append,h]
 rfl
def hitB (b:Nat) (D:Disc):Bool:=D.any fun d=>d.1==b
theorem hitB_snoc (b x:Nat) (D:Disc) (y:Stp):hitB b (D++[(y.to_,x,y)])=(hitB b D||y.to_==b):=by unfold hitB; simp [List.any_append]
theorem hit_met {a b:Nat} {D:Disc} (h:hitB b D=true):metB a D b=true:=by unfold metB; unfold hitB at h; rw [h]; simp
theorem slice_tailA {W:World} {B:Nat} {v:Value} {x:Nat} {q:List Nat} (h:Tail W B v (x :: q)) :
  ∃ v2,(∀ W':World,(Instr.sliceAt 35 v (some (.int .i64 1)) none none).run Tryz.prog W'=.ok v2 W')/\Tail W B v2 q/\v2.ownBlock=v.ownBlock:=by
 obtain ⟨g,off,cap,cur,rfl,h1,h2,h3,h4,h5,h6⟩:=h;simp only [List.length_cons] at h3 h5 ⊢;unfold maxLen at h4;have hc:1<=cap:=by omega
 by_cases hc1:cap=1
 ·subst hc1;have hq:q=[]:=List.eq_nil_of_length_eq_zero (by omega);subst hq;refine ⟨.slice (some ⟨g,off,none⟩) 0 0,fun W'=>?_,⟨g,off,0,cur,by simp,h1,h2,by simp,by unfold maxLen; omega,Or.inl rfl,fun i y hy=>by simp at hy⟩,rfl⟩;go_simp
 ·refine ⟨.slice (some ⟨g,off+1,none⟩) q.length (cap-1),fun W'=>?_,⟨g,off+1,cap-1,cur,rfl,h1,h2,by omega,by unfold maxLen; omega,Or.inr ⟨by omega,by omega⟩,fun i y hy=>by
   have:=h6 (i+1) y (by simpa using hy);rw [show off+1+i=off+(i+1) by omega]; exact this⟩,rfl⟩
  go_simp;intro hlt;omega
theorem info93:(Tryz.prog.info? 93).map (fun i=>(i.zero,i.size,i.bytes))=some (some (.agg #[.int .u8 0,.int .i64 0,.int .i64 0]),3,24):=by kernel_rfl
structure DRel (w W3:World) (b5 fm bm b10 b11 b12 a b n:Nat) (st:Nat->List Stp) (k:Nat) (l:List Nat) (wr:World):Prop where
 it:∃ D Q,diter a st k=(D,Q)/\DI w b5 fm bm b10 b11 b12 a b D Q wr/\hitB b D=false
 le:k<=n
 size:W3.heap.size<=wr.heap.size
 mks:MarksW W3.heap.size l wr
structure DEnd (w W3:World) (b5 fm bm b10 b11 a b n:Nat) (st:Nat->List Stp) (D:Disc) (l:List Nat) (W:World):Prop where
 dm:DM w b5 fm bm b10 b11 a b D W
 pre:D <+: discN a st n
 met:metB a D b=deriveB a st n b
 size:W3.heap.size<=W.heap.size
 mks:MarksW W3.heap.size l W
def DerivePost (w:World) (st:Nat->List Stp) (n a b:Nat) (e:Ending) (w':World):Prop :=
 ∃ v,e=.returned (.tuple #[v,.bool (deriveB a st n b),.int .i64 0])/\StepsW w' v ((deriveL a st n b).map Stp.toI)/\Ext w w'
theorem hlen6 {n a x:Nat} {pre:List (StpG n)} {D:Disc} {q:List Nat} {D':Disc} {Q':List Nat} (h:dvN a x pre (D,q)=(D',Q')):Q'.length<=q.length+pre.length:=by
 have gen:∀ (l:List Stp) (s:Disc × List Nat),(l.foldl (dvis a x) s).2.length<=s.2.length+l.length:=by
  intro l
  induction l with
  | nil=>intro s; simp
  | cons y l ih =>
   intro s;have h1:=ih (dvis a x s y);have h2:(dvis a x s y).2.length<=s.2.length+1:=by unfold dvis; split <;> simp
   simp only [List.foldl_cons,List.length_cons];omega
 have:=gen (pre.map (·.1)) (D,q);unfold dvN at h;rw [h] at this
 simpa using this
theorem derive38 (vb:Nat) (g:List Ty) (C:Nat->Nat) (rs:List Reveal) (S:List Nat) (gv cv rv av:Value) (mb:Nat) (mm:List (BA × Value)) (w:World) (hv:EnvW w vb g C rs S gv cv rv av) (hby:ByAt w vb rs mb mm)
  (hn:g.length<=400) (hr60:rs.length<=60) (hr:∀ t,t<g.length->rightB g (nth g t)=true) (hrt:∀ i,i<rs.length->0<=(nth rs i).type/\(nth rs i).type<g.length) (a b:Nat) (ha:a<g.length) (hb:b<g.length) (h0:askedR g.length [(a:Int),(b:Int)]=0) :
  Calls Tryz.prog 38 #[.pointer (some ⟨vb,0,none⟩),.int .i64 a,.int .i64 b] w (DerivePost w (stF g C rs) g.length a b):=by
 have hst:∀ x,x<g.length->∀ s,s∈stF g C rs x->s.to_<g.length:=fun x hx s hs=>(stepsTo_ok (hr x hx) hr60 hrt 8 s hs).2.1;obtain ⟨ga,gc,rfl,_⟩:=id hv.gr;obtain ⟨w0,hw0⟩:∃ w0:World,w0=w.alloc (.cells #[.int .i64 b] 3):=⟨_,rfl⟩;have hE0:Ext w w0:=by rw [hw0]; exact Ext.alloc _ _
 have hcall:=dh (asked47 vb ga g.length gc hn _ 2 2 [(a:Int),(b:Int)] _ ((hE0.trans (Ext.alloc _ _)).cell hv.c0) (ints_two w0 a b (by omega) (by omega)));rw [h0] at hcall;have hbb:w0.heap[w.heap.size]? = some (.cells #[.int .i64 b] 3 (0,0)):=by rw [hw0]; exact heap_alloc_new _ _
 rw [hw0,World.size_alloc] at hcall;have HE0:=dh hE0;have Hw0:=dh hw0;have Hbb:=dh hbb;have Hv:=dh hv;have Hby:=dh hby;have Hrr:=dh hr;have Hrt:=dh hrt;have Hst:=dh hst;clear h0 hE0 hw0 hbb hv hby hr hrt hst;refine (callsIn_wide (n:=3)).1 ?_;refine callsIn_of_wp_marks Tryz.func38 rfl trivial ?_ rfl;simp only [Tryz.ntmps38,List.size_toArray,List.length_cons,List.length_nil,Nat.reduceAdd,Nat.reduceSub,Array.replicate_succ,Array.replicate_zero,List.push_toArray,List.append_toArray,List.nil_append,List.cons_append];gi_wp2_with fail;refine wpIn_scope_wide ?_;gi_wp2_with fail;refine ⟨trivial,callsIn_wide.2 (hcall.out.mono ?_)⟩;rintro e W1 ⟨rfl,hE1⟩;rw [<- Hw0.out] at hE1;have hEw1:Ext w0 W1:=(Ext.alloc _ _).trans hE1;have hmm:=@run_makeMap Tryz.prog;obtain ⟨W2,r1,m1,g1,s1⟩:=(MapI.made W1).update Tryz.underlying131 a (.int .i64 (-1));have hE12:Ext W1 W2:=(Ext.alloc W1 _).grown g1 (by simp) (fun k e=>by cases e; exact Nat.le_refl _);have HE1:=dh hEw1;have M1:=dh m1;have HE12:=dh hE12;have S1:=dh s1;clear hE1 hEw1 m1 g1 s1 hE12 hcall;gi_wp2_with fail;refine wpIn_label ?_
 gi_step
 gi_step
 gi_step
 clear hmm r1;obtain ⟨W3,hW3⟩:∃ W3:World,W3=((((W2.alloc (.cells #[.map (some W1.heap.size)] 131)).alloc (.map #[] 0)).alloc (.cells #[.map (some (W2.heap.size+1))] 132)).alloc (.cells #[.int .i64 a] 3)).alloc (.cells #[.slice (some ⟨W2.heap.size+1+1+1,0,none⟩) 1 1] 35):=⟨_,rfl⟩;obtain ⟨v34,hv34⟩:∃ v34:Value,v34=.slice (some ⟨W2.heap.size+1+1+1,0,none⟩) 1 1:=⟨_,rfl⟩;obtain ⟨v24,hv24⟩:∃ v24:Value,v24=.slice (some ⟨w.heap.size+1,0,none⟩) 2 2:=⟨_,rfl⟩;obtain ⟨b12,hb12⟩:∃ x,x=W2.heap.size+1+1+1+1:=⟨_,rfl⟩;obtain ⟨b11,hb11⟩:∃ x,x=W2.heap.size+1+1:=⟨_,rfl⟩;obtain ⟨bm,hbm⟩:∃ x,x=W2.heap.size+1:=⟨_,rfl⟩;obtain ⟨b10,hb10⟩:∃ x,x=W2.heap.size:=⟨_,rfl⟩;obtain ⟨fm,hfm⟩:∃ x,x=W1.heap.size:=⟨_,rfl⟩;obtain ⟨b5,hb5⟩:∃ x,x=w.heap.size:=⟨_,rfl⟩;rw [<- hW3,<- hv34,<- hv24,<- hb12,<- hb11,<- hbm,<- hb10,<- hfm,<- hb5];have hDI:W3.heap.size=b12+1/\DI w b5 fm bm b10 b11 b12 a b [] [a] W3:=by
  have e1:Ext W2 (W2.alloc (.cells #[.map (some W1.heap.size)] 131)):=Ext.alloc _ _;obtain ⟨A,hA⟩:∃ A:World,A=W2.alloc (.cells #[.map (some W1.heap.size)] 131):=⟨_,rfl⟩;obtain ⟨B,hB⟩:∃ B:World,B=A.alloc (.map #[] 0):=⟨_,rfl⟩;obtain ⟨D,hD⟩:∃ D:World,D=B.alloc (.cells #[.map (some (W2.heap.size+1))] 132):=⟨_,rfl⟩;obtain ⟨E,hE⟩:∃ E:World,E=D.alloc (.cells #[.int .i64 a] 3):=⟨_,rfl⟩;rw [<- hA,<- hB,<- hD,<- hE,<- hv34] at hW3;have sA:A.heap.size=W2.heap.size+1:=by rw [hA,World.size_alloc]
  have sB:B.heap.size=W2.heap.size+2:=by rw [hB,World.size_alloc,sA]
  have sD:D.heap.size=W2.heap.size+3:=by rw [hD,World.size_alloc,sB]
  have sE:E.heap.size=W2.heap.size+4:=by rw [hE,World.size_alloc,sD]
  have s3:W3.heap.size=W2.heap.size+5:=by rw [hW3,World.size_alloc,sE]
  have e2A:Ext W2 A:=by rw [hA]; exact Ext.alloc _ _
  have eAB:Ext A B:=by rw [hB]; exact Ext.alloc _ _
  have eBD:Ext B D:=by rw [hD]; exact Ext.alloc _ _
  have eDE:Ext D E:=by rw [hE]; exact Ext.alloc _ _
  have eE3:Ext E W3:=by rw [hW3]; exact Ext.alloc _ _
  have e23:Ext W2 W3:=e2A.trans (eAB.trans (eBD.trans (eDE.trans eE3)));have hE0:=HE0.out;have hE1:=HE1.out;have hE12:=HE12.out;have z0:=hE0.size;have z1:=hE1.size;have z2:=S1.out;rw [World.size_alloc] at z2;have zb:=row_lt Hbb.out;refine ⟨by omega,⟨⟨?_,?_,?_,?_,?_,hE0.trans (hE1.trans (hE12.trans e23)),by omega,by omega,by omega,by omega,by omega,by omega⟩,⟨v34,?_,W2.heap.size+3,0,1,#[.int .i64 a],?_,by omega,?_,by simp,by unfold maxLen; omega,Or.inr ⟨by simp,by simp⟩,fun i x hx=>?_⟩,by omega,by omega,by omega,by omega⟩⟩
  ·rw [hb5]; exact ((hE1.trans (hE12.trans e23)).block _ zb).trans Hbb.out
  ·rw [hb10,hfm];refine ((eAB.trans (eBD.trans (eDE.trans eE3))).block _ (by omega)).trans ?_;rw [hA]; exact heap_alloc_new _ _
  ·rw [hb11,hbm];refine ((eDE.trans eE3).block _ (by omega)).trans ?_;rw [hD];have:=heap_alloc_new B (.cells #[.map (some (W2.heap.size+1))] 132)
   rwa [sB] at this
  ·rw [hfm];obtain ⟨m,q1,q2⟩:=M1.out.ext e23;refine ⟨m,q1,fun u=>?_⟩;rw [q2]; rfl
  ·rw [hbm];have:=MapI.made A;rw [<- hB,sA] at this;obtain ⟨m,q1,q2⟩:=this.ext (eBD.trans (eDE.trans eE3));exact ⟨m,q1,fun u=>by rw [q2]; rfl⟩
  ·rw [hb12,hW3];have:=heap_alloc_new E (.cells #[v34] 35)
   rwa [sE] at this
  ·rw [hv34]; rfl
  ·refine (eE3.block _ (by omega)).trans ?_;rw [hE];have:=heap_alloc_new D (.cells #[.int .i64 (a:Nat)] 3)
   rwa [sD] at this
  ·match i,hx with
   | 0,hx=>simp at hx; subst hx; simp
 have HW3s:=dh hDI.1;have HDI:=dh hDI.2;clear hDI hW3 hv34 hv24 hb12 hb11 hbm hb10 hfm hb5 HE0 Hw0 Hbb HE1 M1 HE12 S1;have hlo:=HDI.out.dm.lo;have hlo2:=HDI.out.lo;have hN12:b12<W3.heap.size:=by have:=HW3s.out; omega
 have hNf:fm<W3.heap.size/\bm<W3.heap.size:=⟨HDI.out.dm.mf.lt,HDI.out.dm.mb.lt⟩;have hwW3:w.heap.size<=W3.heap.size:=HDI.out.dm.ext.size;have HLo:=dh hlo;have HLo2:=dh hlo2;clear hlo hlo2;obtain ⟨R,hR⟩:∃ R:Act->World->Prop,R=fun a9 wr=>∃ (D:Disc) (l:List Nat) (u13 u35 u36 u37 u38 u39 u40 u41 u42 u43 u44 u45:Value),DEnd w W3 b5 fm bm b10 b11 a b g.length (stF g C rs) D l wr/\a9={ tmps:=#[.pointer (some ⟨vb,0,none⟩),.int .i64 a,.int .i64 b,undef,undef,.pointer (some ⟨b5,0,none⟩),.slice none 0 0,.bool false,.int .i64 0,.int .i64 0,.pointer (some ⟨b10,0,none⟩),.pointer (some ⟨b11,0,none⟩),.pointer (some ⟨b12,0,none⟩),u13,undef,undef,undef,undef,undef,undef,undef,.pointer (some ⟨vb,0,none⟩),.int .i64 a,.int .i64 b,v24,.int .i64 0,.int .i64 0,.bool false,undef,.map (some fm),.int .i64 a,.map (some fm),.map (some bm),.int .i64 a,v34,u35,u36,u37,u38,u39,u40,u41,u42,u43,u44,u45,undef,undef,undef,undef,undef,undef,undef,undef,undef,undef,undef,undef,undef,undef,undef,undef,undef,undef,undef,undef,undef,undef,undef,undef,undef,undef,undef,undef,undef,undef,undef,undef,undef,undef,undef,undef,undef,undef,undef,undef,undef,undef,undef,undef,undef,undef,undef,undef,undef,undef],defers:=marks l }:=⟨_,rfl⟩
 have HR:=dh hR;clear hR;refine wpIn_cutR R ?first ?rest
 case first =>
  gi_wp2_with fail;refine wpIn_loop_ghost (fun N9 a9 wr=>∃ (k:Nat) (l:List Nat) (u13 u35 u36 u37 u38 u39 u40 u41 u42 u43 u44 u45:Value),N9+k=g.length+1/\DRel w W3 b5 fm bm b10 b11 b12 a b g.length (stF g C rs) k l wr/\a9={ tmps:=#[.pointer (some ⟨vb,0,none⟩),.int .i64 a,.int .i64 b,undef,undef,.pointer (some ⟨b5,0,none⟩),.slice none 0 0,.bool false,.int .i64 0,.int .i64 0,.pointer (some ⟨b10,0,none⟩),.pointer (some ⟨b11,0,none⟩),.pointer (some ⟨b12,0,none⟩),u13,undef,undef,undef,undef,undef,undef,undef,.pointer (some ⟨vb,0,none⟩),.int .i64 a,.int .i64 b,v24,.int .i64 0,.int .i64 0,.bool false,undef,.map (some fm),.int .i64 a,.map (some fm),.map (some bm),.int .i64 a,v34,u35,u36,u37,u38,u39,u40,u41,u42,u43,u44,u45,undef,undef,undef,undef,undef,undef,undef,undef,undef,undef,undef,undef,undef,undef,undef,undef,undef,undef,undef,undef,undef,undef,undef,undef,undef,undef,undef,undef,undef,undef,undef,undef,undef,undef,undef,undef,undef,undef,undef,undef,undef,undef,undef,undef,undef,undef,undef,undef,undef,undef],defers:=marks l }) (g.length+1) ?start ?round
  case start=>exact ⟨0,[],_,_,_,_,_,_,_,_,_,_,_,_,rfl,⟨⟨_,_,rfl,HDI.out,rfl⟩,Nat.zero_le _,Nat.le_refl _,MarksW.nil _ _⟩,rfl⟩
  case round =>
   clear HDI;rintro N9 a9 wr ⟨k,l,u13,u35,u36,u37,u38,u39,u40,u41,u42,u43,u44,u45,hNk,HR1,rfl⟩;obtain ⟨⟨D,Q,hit,hRI,hnh⟩,hk,hsz,hm⟩:=HR1;cases Q with
   | nil =>
    have Hdone:=dh (diter_done ha Hst.out hit);obtain ⟨v,h6,hT⟩:=hRI.todo;obtain ⟨g9,off9,cap9,cur9,rfl,-⟩:=id hT;have e6:=row_cell h6 (j:=0) rfl;have HRI:=dh hRI;have Hm:=dh hm;clear h6 hT hm hRI hit hnh;gi_wp2_with fail;rw [HR.out];exact ⟨D,l,_,_,_,_,_,_,_,_,_,_,_,_,⟨HRI.out.dm,by rw [Hdone.out]; exact List.prefix_refl _,by rw [Hdone.out]; rfl,hsz,Hm.out⟩,rfl⟩
   | cons x q =>
    have hleft:=diter_left ha Hst.out hit (by simp);have hxn:x<g.length:=hleft.2 x (by simp);have hkn:k+(q.length+1)<=g.length:=by simpa using hleft.1
    obtain ⟨v,h6,hT⟩:=hRI.todo;obtain ⟨v2,hsl,hT2,hob⟩:=slice_tailA hT;obtain ⟨g9,off9,cap9,cur9,rfl,k1,k2,k3,k4,k5,k6⟩:=id hT;obtain ⟨g8,off8,cap8,cur8,rfl,-⟩:=id hT2;have e6:=row_cell h6 (j:=0) rfl;have f6:=row_free h6 0;have e0:wr.cell? ⟨g9,off9,none⟩=some (.int .i64 x):=row_cell k2 (by simpa using k6 0 x rfl);have l12:=row_lt h6;have l9:=row_lt k2;simp only [List.length_cons] at e6 hsl;obtain ⟨b13,hb13⟩:∃ b13,b13=wr.heap.size:=⟨_,rfl⟩;have hne13:b13≠b12:=by omega
    obtain ⟨wq,hwq⟩:∃ wq:World,wq=wr.setCell ⟨b12,0,none⟩ (.slice (some ⟨g8,off8,none⟩) q.length cap8):=⟨_,rfl⟩;have hsq:wq.heap.size=wr.heap.size:=by rw [hwq,World.size_setCell]
    obtain ⟨wc,hwc⟩:∃ wc:World,wc=wq.alloc (.cells #[.int .i64 x] 3):=⟨_,rfl⟩;have hEc:Ext wq wc:=by rw [hwc]; exact Ext.alloc _ _
    have hRc:DI w b5 fm bm b10 b11 b12 a b D q wc:=by
     have:=hRI.setQ hT2;rw [<- hwq] at this;exact this.grow hEc
    have hmc:MarksW W3.heap.size l wc:=by
     have:=hm.grown (grownBy_setB wr b12 0 (.slice (some ⟨g8,off8,none⟩) q.length cap8)) (fun o ho=>by rw [h6] at ho; cases ho; rfl);rw [<- hwq] at this;exact this.ext hEc
    have h13c:wc.heap[b13]? = some (.cells #[.int .i64 x] 3 (0,0)):=by rw [hb13,hwc,<- hsq]; exact heap_alloc_new _ _
    have hsc:W3.heap.size<=wc.heap.size:=by rw [hwc,World.size_alloc,hsq]; omega
    have hb13N:W3.heap.size<=b13:=by omega
    have Hwq:=dh hwq;have HRc:=dh hRc;have Hmc:=dh hmc;have Hwc:=dh hwc;have H13:=dh h13c;have Hit:=dh hit;have Hnh:=dh hnh;have Hb13:=dh hb13;have Hne13:=dh hne13;clear hit hnh hRI hT hT2 h6 hm hleft k1 k2 k3 k4 k5 k6 hob hRc hmc hwc hwq hsq hEc h13c hb13 hne13;gi_wp2_with fail;rw [<- Hwq.out,<- Hwc.out,<- Hb13.out];refine ⟨trivial,callsIn_wide.2 ((steps71 vb x wc).mono ?_)⟩;rintro e W2 ⟨rfl,hW2⟩;have hE2:Ext wc W2:=by rw [hW2]; exact (Ext.alloc _ _).trans (Ext.alloc _ _)
    have hs2:W2.heap.size=wc.heap.size+2:=by rw [hW2]; simp
    have p1:Safe (footR b12 b12) W2 wc.heap.size #[.pointer (some ⟨vb,0,none⟩)] 28:=by
     rw [hW2];exact (Safe.new (footR_ok hN12 hN12) wc hsc _ _ (Or.inl (by decide))).ext (footR_ok hN12 hN12) (by simp; omega) (Ext.alloc _ _)
    have p2:Safe (footR b12 b12) W2 (wc.heap.size+1) #[.int .i64 x] 3:=by
     rw [hW2];have:=Safe.new (footR_ok hN12 hN12) (wc.alloc (.cells #[.pointer (some ⟨vb,0,none⟩)] 28)) (by simp; omega) #[.int .i64 (x:Nat)] 3 (Or.inr (by simp))
     rwa [World.size_alloc] at this
    have HR2:=dh (HRc.out.grow hE2);have H13:=dh ((hE2.block _ (row_lt H13.out)).trans H13.out);have HE2:=dh hE2;have P1:=dh p1;have P2:=dh p2;have Hs2:=dh hs2;have hb13w:=row_lt H13.out;clear hW2 hE2 p1 p2 hs2 hsl e6 f6 e0 HRc;gi_wp2_with fail;refine wpIn_rangeFunc_ownH (F:=Fence.wide) rfl (by omega) (gf:=106) (lb:=#[.pointer (some ⟨wc.heap.size,0,none⟩),.pointer (some ⟨wc.heap.size+1,0,none⟩)]) rfl trivial enters106'
     (steps106 W3.heap.size vb g C rs _ _ _ _ _ mb mm w W2 Hv.out Hby.out HR2.out.dm.ext hn hr60 x hxn (Hrr.out x hxn) Hrt.out (footR b12 b12) (footR_ok hN12 hN12) (by have:=Hs2.out; omega) _ _ P1.out P2.out _)
     (fun h k=>h.trans k) (fun W l o o' hl h ho hw=>KpF.put (footR_ok hN12 hN12) HR2.out.dm.ext.size W l o o' hl h ho hw) (Below.refl _ _) (fun _=>rfl)
     (fun pre W'=>∃ D' Q',dvN a x pre (D,q)=(D',Q')/\DI w b5 fm bm b10 b11 b12 a b D' Q' W'/\hitB b D'=false/\MarksW W3.heap.size l W'/\W2.heap.size<=W'.heap.size/\W'.heap[b13]? = some (.cells #[.int .i64 x] 3 (0,0)))
     (fun cd pre W'=>cd=.exit 0/\∃ D' Q',dvN a x pre (D,q)=(D',Q')/\DM w b5 fm bm b10 b11 a b D' W'/\hitB b D'=true/\MarksW W3.heap.size l W'/\W2.heap.size<=W'.heap.size)
     ?hI ?hIx ⟨D,q,rfl,HR2.out,Hnh.out,?m0,Nat.le_refl _,H13.out⟩
     (fun y a' W'=>∃ (p:Nat) (u35 u36 u37 u38 u39 u40 u41 u42 u43 u44 u45:Value),W'.heap[p]? = some (.cells #[.int .u8 y.1.rule,.int .i64 y.1.to_,.int .i64 y.1.n] 93 (0,0))/\W3.heap.size<=p/\a'={ tmps:=#[.pointer (some ⟨vb,0,none⟩),.int .i64 a,.int .i64 b,undef,undef,.pointer (some ⟨b5,0,none⟩),.slice none 0 0,.bool false,.int .i64 0,.int .i64 0,.pointer (some ⟨b10,0,none⟩),.pointer (some ⟨b11,0,none⟩),.pointer (some ⟨b12,0,none⟩),.pointer (some ⟨b13,0,none⟩),.pointer (some ⟨p,0,none⟩),undef,undef,undef,undef,undef,undef,.pointer (some ⟨vb,0,none⟩),.int .i64 a,.int .i64 b,v24,.int .i64 0,.int .i64 0,.bool false,undef,.map (some fm),.int .i64 a,.map (some fm),.map (some bm),.int .i64 a,v34,u35,u36,u37,u38,u39,u40,u41,u42,u43,u44,u45,.agg #[.int .u8 y.1.rule,.int .i64 y.1.to_,.int .i64 y.1.n],undef,undef,undef,undef,undef,undef,undef,undef,undef,undef,undef,undef,undef,undef,undef,undef,undef,undef,undef,undef,undef,undef,undef,undef,undef,undef,undef,undef,undef,undef,undef,undef,undef,undef,undef,undef,undef,undef,undef,undef,undef,undef,undef,undef,undef,undef,undef,undef,undef],defers:=[] }) ?a1 ?assign ?body ?done ?stop
    case hI =>
     rintro pre A B row ⟨D',Q',i1,i2,i3,i4,i5,i6⟩ hg hr;have hlt:W3.heap.size<=W2.heap.size:=by have:=Hs2.out; omega
     refine ⟨D',Q',i1,i2.walks (B:=W2.heap.size) (by omega) (by omega) hg hr,i3,⟨i4.nd,fun D9 hD9=>⟨(i4.each D9 hD9).1,(hg.block D9 (row_lt (i4.each D9 hD9).2) (fun e=>?_)).trans (i4.each D9 hD9).2⟩⟩,Nat.le_trans i5 hg.size,(hg.block _ (row_lt i6) (fun e=>?_)).trans i6⟩
     ·have h1:=(hr D9 e.symm).1;have h2:=Hmc.out.lt D9 hD9;have h3:=HE2.out.size;omega
     ·obtain ⟨_,o,ho,hoc⟩:=hr b13 e.symm;rw [i6] at ho; cases ho; cases hoc
    case hIx =>
     rintro cd pre A B row ⟨hcd,D',Q',i1,i2,i3,i4,i5⟩ hg hr;have hlt:W3.heap.size<=W2.heap.size:=by have:=Hs2.out; omega
     refine ⟨hcd,D',Q',i1,i2.walks (B:=W2.heap.size) (by omega) (by omega) hg hr,i3,⟨i4.nd,fun D9 hD9=>⟨(i4.each D9 hD9).1,(hg.block D9 (row_lt (i4.each D9 hD9).2) (fun e=>?_)).trans (i4.each D9 hD9).2⟩⟩,Nat.le_trans i5 hg.size⟩;have h1:=(hr D9 e.symm).1;have h2:=Hmc.out.lt D9 hD9;have h3:=HE2.out.size;omega
    case m0=>exact Hmc.out.ext HE2.out
    case a1 =>
     rintro y a' _ A B row ⟨p,u35,u36,u37,u38,u39,u40,u41,u42,u43,u44,u45,hp,hpl,ha⟩ hg hr;refine ⟨p,u35,u36,u37,u38,u39,u40,u41,u42,u43,u44,u45,(hg.block p (row_lt hp) (fun e=>?_)).trans hp,hpl,ha⟩;obtain ⟨_,o,ho,hoc⟩:=hr p e.symm;rw [hp] at ho;cases ho; cases hoc
    case assign =>
     rintro l9 pre ⟨y,hy⟩ W K ⟨D',Q',i1,i2,i3,i4,i5,i6⟩ hK;simp only [encG,encStp];gi_wp2_with fail;have hlw:w.heap.size<=W.heap.size:=i2.dm.ext.size;have hWW:W3.heap.size<=W.heap.size:=by have:=Hs2.out; omega
     refine hK _ _ ((KeepsOthers.alloc _ _).from _) (kpf_ext hN12 hN12 hlw hWW (Ext.alloc _ _)) ⟨D',Q',i1,i2.grow (Ext.alloc _ _),i3,i4.ext (Ext.alloc _ _),by rw [World.size_alloc]; omega,((Ext.alloc _ _).block _ (row_lt i6)).trans i6⟩ ⟨W.heap.size,_,_,_,_,_,_,_,_,_,_,_,heap_alloc_new _ _,hWW,rfl⟩
    case body =>
     rintro l9 pre ⟨y,hy⟩ a' W hl9 ⟨r9,hr9⟩ ⟨D',Q',i1,i2,i3,i4,i5,i6⟩ ⟨p,u35,u36,u37,u38,u39,u40,u41,u42,u43,u44,u45,hp,hpl,rfl⟩ hlen;have hyn:y.to_<g.length:=hy.2.1;have hlw:w.heap.size<=W.heap.size:=i2.dm.ext.size;have hWW:W3.heap.size<=W.heap.size:=by have:=Hs2.out; omega
     have hsn:=dh (dvN_snoc (y:=(⟨y,hy⟩:StpG g.length)) i1);have p0:=row_cell hp (j:=0) rfl;have p1:=row_cell hp (j:=1) rfl;have p2:=row_cell hp (j:=2) rfl;have c10:=row_cell i2.dm.frm (j:=0) rfl;have hlk:=i2.dm.mf.lookupOk Tryz.underlying131 zero3 y.to_;rw [fromV_some] at hlk;obtain ⟨vv,hvv⟩:∃ vv,vv=(fromV a D' y.to_).getD (.int .i64 0):=⟨_,rfl⟩;rw [<- hvv] at hlk;clear hvv;have I1:=dh i1;have I2:=dh i2;have I3:=dh i3;have I4:=dh i4;have I6:=dh i6;have Hp:=dh hp;have Hr9:=dh hr9;have hxD:W2.heap.size=wc.heap.size+2:=Hs2.out;have HxD:=dh hxD;clear i1 i2 i3 i4 i6 hp hr9 hxD;cases hmet:metB a D' y.to_
     ·rw [hmet] at hlk;obtain ⟨WA,WB,r1,r2,g1,g2,s2,dn,key,kpf⟩:=(I2.out.grow (Ext.drew W)).put (x:=x) hmet;have c11:=row_cell I2.out.dm.byb (j:=0) rfl;have c13:=row_cell I6.out (j:=0) rfl;have Hmet:=dh hmet;have DN:=dh dn;have Key:=dh key;have Kpf:=dh kpf;have G1:=dh g1;have G2:=dh g2;have S2:=dh s2;have HS:=dh (show W.drew.cell? ⟨b10,0,none⟩=some (.map (some fm))/\W.drew.cell? ⟨b11,0,none⟩=some (.map (some bm))/\W.drew.cell? ⟨b13,0,none⟩=some (.int .i64 x)/\W.drew.cell? ⟨p,0,none⟩=some (.int .u8 y.rule)/\W.drew.cell? ⟨p,1,none⟩=some (.int .i64 y.to_)/\W.drew.cell? ⟨p,2,none⟩=some (.int .i64 y.n) from
       ⟨(Ext.drew W).cell c10,(Ext.drew W).cell c11,(Ext.drew W).cell c13,(Ext.drew W).cell p0,(Ext.drew W).cell p1,(Ext.drew W).cell p2⟩)
      have HSA:=dh (show WA.cell? ⟨b10,0,none⟩=some (.map (some fm))/\WA.cell? ⟨b11,0,none⟩=some (.map (some bm))/\WA.cell? ⟨b13,0,none⟩=some (.int .i64 x)/\WA.cell? ⟨p,0,none⟩=some (.int .u8 y.rule)/\WA.cell? ⟨p,1,none⟩=some (.int .i64 y.to_)/\WA.cell? ⟨p,2,none⟩=some (.int .i64 y.n) from
       ⟨row_cell (key _ _ _ _ I2.out.dm.frm).1 rfl,row_cell (key _ _ _ _ I2.out.dm.byb).1 rfl,row_cell (key _ _ _ _ I6.out).1 rfl,row_cell (key _ _ _ _ Hp.out).1 rfl,row_cell (key _ _ _ _ Hp.out).1 rfl,row_cell (key _ _ _ _ Hp.out).1 rfl⟩)
      clear hmet dn key kpf g1 g2 s2;unfold encV at r2;have R1:=dh r1;have R2:=dh r2;clear r1 r2
      gi_upto_region 14 with (fail)
      clear hlk p0 p1 p2 c10 c11 c13;refine wp_region_I 9 (fun u=>u.cell? ⟨b10,0,none⟩=some (.map (some fm))/\u.cell? ⟨b11,0,none⟩=some (.map (some bm))/\u.cell? ⟨b13,0,none⟩=some (.int .i64 x)/\u.cell? ⟨p,0,none⟩=some (.int .u8 y.rule)/\u.cell? ⟨p,1,none⟩=some (.int .i64 y.to_)/\u.cell? ⟨p,2,none⟩=some (.int .i64 y.n)) (by kernel_rfl) ?_;refine wpI_take (i:=0) (v:=?_) rfl (by kernel_rfl) (by kernel_rfl) (by kernel_rfl) (by kernel_rfl) (by kernel_rfl) (fun _ _ _ h=>h) HS.out (Or.inl ⟨by kernel_rfl,fun w9 hE=>?_⟩) (fun _ _=>rfl) ?_;rotate_left
      ·obtain ⟨q1,q2,q3,q4,q5,q6⟩:=hE; first | (go_simp; done) | (go_simp; with_reducible rfl)
      simp only [Act.put,nm];refine wpI_take (i:=1) (v:=?_) rfl (by kernel_rfl) (by kernel_rfl) (by kernel_rfl) (by kernel_rfl) (by kernel_rfl) (fun _ _ _ h=>h) HS.out (Or.inl ⟨by kernel_rfl,fun w9 hE=>?_⟩) (fun _ _=>rfl) ?_;rotate_left
      ·obtain ⟨q1,q2,q3,q4,q5,q6⟩:=hE; first | (go_simp; done) | (go_simp; with_reducible rfl)
      simp only [Act.put,nm];refine wpI_take (i:=2) (v:=?_) rfl (by kernel_rfl) (by kernel_rfl) (by kernel_rfl) (by kernel_rfl) (by kernel_rfl) (fun _ _ _ h=>h) HS.out (Or.inl ⟨by kernel_rfl,fun w9 hE=>?_⟩) (fun _ _=>rfl) ?_;rotate_left
      ·obtain ⟨q1,q2,q3,q4,q5,q6⟩:=hE; first | (go_simp; done) | (go_simp; with_reducible rfl)
      simp only [Act.put,nm];refine wpI_take (i:=3) (v:=?_) rfl (by kernel_rfl) (by kernel_rfl) (by kernel_rfl) (by kernel_rfl) (by kernel_rfl) (fun _ _ _ h=>h) HS.out (Or.inl ⟨by kernel_rfl,fun w9 hE=>?_⟩) (fun _ _=>rfl) ?_;rotate_left
      ·obtain ⟨q1,q2,q3,q4,q5,q6⟩:=hE; first | (go_simp; done) | (go_simp; with_reducible rfl)
      simp only [Act.put,nm];refine wpI_take (i:=4) (v:=?_) rfl (by kernel_rfl) (by kernel_rfl) (by kernel_rfl) (by kernel_rfl) (by kernel_rfl) (fun _ _ _ h=>h) HS.out (Or.inl ⟨by kernel_rfl,fun w9 hE=>?_⟩) (fun _ _=>rfl) ?_;rotate_left
      ·obtain ⟨q1,q2,q3,q4,q5,q6⟩:=hE; first | (go_simp; done) | (go_simp; with_reducible rfl)
      simp only [Act.put,nm];refine wpI_take (i:=5) (v:=?_) rfl (by kernel_rfl) (by kernel_rfl) (by kernel_rfl) (by kernel_rfl) (by kernel_rfl) (fun _ _ _ h=>h) HS.out (Or.inl ⟨by kernel_rfl,fun w9 hE=>?_⟩) (fun _ _=>rfl) ?_;rotate_left
      ·obtain ⟨q1,q2,q3,q4,q5,q6⟩:=hE; first | (go_simp; done) | (go_simp; with_reducible rfl)
      simp only [Act.put,nm];refine wpI_take (i:=6) (v:=?_) rfl (by kernel_rfl) (by kernel_rfl) (by kernel_rfl) (by kernel_rfl) (by kernel_rfl) (fun _ _ _ h=>h) HS.out (Or.inl ⟨by kernel_rfl,fun w9 hE=>?_⟩) (fun _ _=>rfl) ?_;rotate_left
      ·obtain ⟨q1,q2,q3,q4,q5,q6⟩:=hE; first | (go_simp; done) | (go_simp; with_reducible rfl)
      simp only [Act.put,nm];refine wpI_take (i:=7) (v:=?_) rfl (by kernel_rfl) (by kernel_rfl) (by kernel_rfl) (by kernel_rfl) (by kernel_rfl) (fun _ _ _ h=>h) HS.out (Or.inl ⟨by kernel_rfl,fun w9 hE=>?_⟩) (fun _ _=>rfl) ?_;rotate_left
      ·obtain ⟨q1,q2,q3,q4,q5,q6⟩:=hE; first | (go_simp; done) | (go_simp; with_reducible rfl)
      simp only [Act.put,nm];have r1:=R1.out;refine wpI_only (i:=8) rfl (by kernel_rfl) (fun K hK=>?_);go_simp;refine hK _ _ (fun _=>HSA.out) ?_; clear hK K;clear r1;have r2:=R2.out;refine wpI_only (i:=9) rfl (by kernel_rfl) (fun K hK=>?_);go_simp;refine hK _ _ (fun h=>absurd rfl h) ?_; clear hK K;refine wpI_done (by kernel_rfl) ?_;clear r2 HS HSA R1 R2;have hKeep:=dh (show KeepsFrom W2.heap.size W WB from (((KeepsOthers.drew W).from _).trans (KeepsFrom.of_grownBy G1.out (fun j e=>by cases e; have:=HxD.out; omega))).trans (KeepsFrom.of_grownBy G2.out (fun j e=>by cases e; have:=HxD.out; omega)));have hKp:=dh (show KpF w.heap.size (footR b12 b12) W WB from (kpf_ext hN12 hN12 hlw hWW (Ext.drew W)).trans (Kpf.out _ _ _ (Nat.le_refl _)));have hpB:=(Key.out _ _ _ _ (((Ext.drew W).block p (row_lt Hp.out)).trans Hp.out)).2;have h13B:=(Key.out _ _ _ _ (((Ext.drew W).block b13 (row_lt I6.out)).trans I6.out)).2;have hm1:=((I4.out.ext (Ext.drew W)).other G1.out (by omega)).other G2.out (by omega);have hsB:WB.heap.size=W.heap.size:=S2.out;have p1:=row_cell hpB (j:=1) rfl;have c5:=row_cell DN.out.dm.bb (j:=0) rfl;have HpB:=dh hpB;have H13B:=dh h13B;have Hm1:=dh hm1;have HsB:=dh hsB;clear hpB h13B hm1 hsB Kpf Key G1 G2 S2;have hcase:y.to_=b\/y.to_≠b:=Decidable.em _;rcases hcase with hyb | hyb
      ·have hq:((y.to_:Int)==(b:Int))=true:=by simp [hyb]
       have Hyb:=dh hyb;clear hyb;gi_wp2_with fail;exact ⟨hKeep.out,rfl,D'++[(y.to_,x,y)],⟨Q'++[y.to_],by rw [hsn.out]; exact dvis_new Hmet.out⟩,DN.out.dm,by rw [hitB_snoc,Hyb.out]; simp,Hm1.out,by have:=HsB.out; omega⟩
      ·have hq:((y.to_:Int)==(b:Int))=false:=by simp; omega
       have Hyb:=dh hyb;clear hyb;obtain ⟨v6,h6,hT6⟩:=DN.out.todo;have e6:=row_cell h6 (j:=0) rfl;have f6:=row_free h6 0;have hlen6:Q'.length<1000000:=by
        have h:=hlen6 I1.out;omega
       have H6':=dh h6;have HT6:=dh hT6;have hb5B:b5+1<=(WB.alloc (.cells #[.int .i64 (y.to_:Nat)] 3)).heap.size:=by
        rw [World.size_alloc];have:=row_lt DN.out.dm.bb;omega
       clear h6 hT6;have hT7:=HT6.out.ext (Ext.alloc WB (.cells #[.int .i64 (y.to_:Nat)] 3));have hc7:=row_cell (j:=0) (heap_alloc_new WB (.cells #[.int .i64 (y.to_:Nat)] 3)) rfl;have h67:=((Ext.alloc WB (.cells #[.int .i64 (y.to_:Nat)] 3)).block b12 (row_lt H6'.out)).trans H6'.out;have HT7:=dh hT7;have H67:=dh h67;clear hT7 h67;have hafter:∀ v' W',Tail W' (b5+1) v' (Q'++[y.to_])->(∃ g cur,v6.ownBlock=some g/\(WB.alloc (.cells #[.int .i64 (y.to_:Nat)] 3)).heap[g]? = some (.cells cur 3 (0,0))/\(WB.alloc (.cells #[.int .i64 (y.to_:Nat)] 3)).grownBy W' (some g)/\((WB.alloc (.cells #[.int .i64 (y.to_:Nat)] 3)).grownBy W' none\/2<=cur.size)) ->
         W'.cell? ⟨b12,0,none⟩=some v6/\W'.frozen? ⟨b12,0,none⟩=false/\Hid (Tail W' (b5+1) v' (Q'++[y.to_])/\∃ g cur,b5+1<=g/\(WB.alloc (.cells #[.int .i64 (y.to_:Nat)] 3)).heap[g]? = some (.cells cur 3 (0,0))/\(WB.alloc (.cells #[.int .i64 (y.to_:Nat)] 3)).grownBy W' (some g)/\((WB.alloc (.cells #[.int .i64 (y.to_:Nat)] 3)).grownBy W' none\/2<=cur.size)):=by
        rintro v' W' q1 ⟨g7,cur7,q2,q3,q4,q5⟩;have h68:=(q4.block b12 (row_lt H67.out) (fun e=>by cases e; rw [H67.out] at q3; cases q3)).trans H67.out;exact ⟨row_cell h68 rfl,row_free h68 0,dh ⟨q1,g7,cur7,HT7.out.own q2,q3,q4,q5⟩⟩
       have Hafter:=dh hafter;clear hafter;gi_wp2_with (gi_at_builtin; refine wpListIn_append_tail (B:=b5+1) (v:=v6) (xs:=Q') _ ?z1 (.tmp 67) (.tmp 70) ?z2 ?z3 ?z4 ⟨WB.heap.size,0,none⟩ y.to_ ?z5 ?z6 ?z7 ?z8 ?z9 ?z10 ?z11)
       case z1=>rfl
       case z2=>rfl
       case z3=>rfl
       case z4=>exact HT7.out
       case z8=>rfl
       case z10=>exact Nat.le_of_lt (row_lt DN.out.dm.bb)
       intro v36 W7 q1;obtain ⟨h68,f68,HA⟩:=Hafter.out v36 W7 q1.out.1 (by obtain ⟨g7,a1,c7,a2⟩:=q1.out.2; exact ⟨g7,c7,a1,a2⟩);clear q1;obtain ⟨hT8,g7,cur7,k1,k2,k3,k4⟩:=HA.out;obtain ⟨gA,offA,capA,curA,rfl,-⟩:=id hT8;have HT8:=dh hT8;have K2:=dh k2;have K3:=dh k3;have K4:=dh k4;clear HA hT8 k2 k3 k4;gi_wp2_with fail;have hT8:=HT8.out;rw [show (Q'++[y.to_]).length=Q'.length+1 by simp] at hT8;have k2:=K2.out;have k3:=K3.out;have k4:=K4.out;have hlb5:w.heap.size<=b5:=DN.out.dm.lo.1;have hsB:=HsB.out;have hRB:=DN.out.grow (Ext.alloc WB (.cells #[.int .i64 (y.to_:Nat)] 3));have hR8:=hRB.rows k3 k2 k1 hT8;have h67:=(k3.block b12 (row_lt H67.out) (fun e=>by cases e; rw [H67.out] at k2; cases k2)).trans H67.out;have hm8:=((Hm1.out.ext (Ext.alloc WB (.cells #[.int .i64 (y.to_:Nat)] 3))).grown k3 (fun o ho=>by rw [k2] at ho; cases ho; rfl)).grown (grownBy_setB W7 b12 0 (.slice (some ⟨gA,offA,none⟩) (Q'.length+1) capA)) (fun o ho=>by rw [h67] at ho; cases ho; rfl);have h13a:=((Ext.alloc WB (.cells #[.int .i64 (y.to_:Nat)] 3)).block b13 (row_lt H13B.out)).trans H13B.out;have h13b:W7.heap[b13]? = some (.cells #[.int .i64 x] 3 (0,0)):=by
        rcases k4 with k4 | k4
        ·exact (k4.block b13 (row_lt h13a) (by simp)).trans h13a
        ·refine (k3.block b13 (row_lt h13a) (fun e=>?_)).trans h13a;have e:=Option.some.inj e;rw [<- e,h13a] at k2;cases k2;simp at k4
       have hne13:b13≠b12:=fun e=>by rw [e,h67] at h13b; cases h13b
       refine ⟨hKeep.out.trans (((KeepsOthers.alloc WB _).trans ((KeepsOthers.of_grownBy k3 (fun j o e ho=>by cases e; rw [k2] at ho; cases ho; rfl)).trans (KeepsOthers.setCell _ _ _))).from _),
        ((hKp.out.trans (kpf_ext hN12 hN12 (by omega) (by omega) (Ext.alloc _ _))).trans (kpf_rows k3 (by rw [World.size_alloc]; omega) (by omega) k2 k4)).trans (kpf_box (Or.inr rfl) (fun cs T p h=>by rw [h67] at h; cases h; decide) HLo2.out.1 _ _),
        D'++[(y.to_,x,y)],Q'++[y.to_],?_,hR8,?_,hm8,?_,(set_row_other hne13 _).trans h13b⟩
       ·rw [hsn.out]; exact dvis_new Hmet.out
       ·rw [hitB_snoc,I3.out]
        simpa using Hyb.out
       ·rw [World.size_setCell];have:=k3.size;rw [World.size_alloc] at this;omega
     ·rw [hmet] at hlk;have Hmet:=dh hmet;clear hmet;gi_wp2_with fail;exact ⟨KeepsFrom.refl _ _,KpF.refl _ _ _,D',Q',by rw [hsn.out]; exact dvis_met Hmet.out,I2.out,I3.out,I4.out,i5,I6.out⟩
    case done =>
     rintro D9 xs W' hD hS ⟨D',Q',i1,i2,i3,i4,i5,i6⟩ hK;have hDl:D9∉l:=fun hm=>by
      have h2:=Hmc.out.lt D9 hm;have h3:=HE2.out.size;omega
     have HRn:=dh (show DRel w W3 b5 fm bm b10 b11 b12 a b g.length (stF g C rs) (k+1) (D9 :: l) W' from ⟨⟨D',Q',by
       show dstep a (stF g C rs) (diter a (stF g C rs) k)=(D',Q')
       rw [Hit.out];show (stF g C rs x).foldl (dvis a x) (D,q)=(D',Q')
       rw [<- i1];unfold dvN stF;rw [<- hS],i2,i3⟩,by omega,by have:=Hs2.out; omega,i4.cons (by have:=Hs2.out; omega) hDl hK⟩)
     clear i1 i2 i3 i4 i6 hK hDl;gi_wp2_with fail;exact ⟨N9-1,by omega,k+1,D9 :: l,_,_,_,_,_,_,_,_,_,_,_,_,by omega,HRn.out,rfl⟩
    case stop =>
     rintro D9 cd pre W' hD hS ⟨rfl,D',Q',i1,i2,i3,i4,i5⟩ hK;have hDl:D9∉l:=fun hm=>by
      have h2:=Hmc.out.lt D9 hm;have h3:=HE2.out.size;omega
     have hpre:=dlook_prefix ha Hst.out Hit.out hS;have HEnd:=dh (show DEnd w W3 b5 fm bm b10 b11 a b g.length (stF g C rs) D' (D9 :: l) W' from ⟨i2,by
       unfold dvN at i1;rw [i1] at hpre;exact hpre,by
       unfold dvN at i1;rw [i1] at hpre;unfold deriveB;rw [hit_met i3,metB_prefix hpre (hit_met i3)],by have:=Hs2.out; omega,i4.cons (by have:=Hs2.out; omega) hDl hK⟩)
     clear i1 i2 i3 i4 hK hDl hpre hS;gi_wp2_with fail;rw [HR.out];exact ⟨D',D9 :: l,_,_,_,_,_,_,_,_,_,_,_,_,HEnd.out,rfl⟩
 case rest =>
  clear HDI;rintro a9 W hRR;rw [HR.out] at hRR;obtain ⟨D,l,u13,u35,u36,u37,u38,u39,u40,u41,u42,u43,u44,u45,hEnd,rfl⟩:=hRR;obtain ⟨hgood,hpath,hDl⟩:=derive_eq ha Hst.out hEnd.pre hEnd.met;have hlk:=hEnd.dm.mf.lookupOk Tryz.underlying131 zero3 b;rw [fromV_some] at hlk;obtain ⟨vv,hvv⟩:∃ vv,vv=(fromV a D b).getD (.int .i64 0):=⟨_,rfl⟩;rw [<- hvv] at hlk;have c5:=row_cell hEnd.dm.bb (j:=0) rfl;have c10:W.cell? ⟨b10,0,none⟩=some (.map (some fm)):=row_cell hEnd.dm.frm rfl;have c11:W.cell? ⟨b11,0,none⟩=some (.map (some bm)):=row_cell hEnd.dm.byb rfl;have l5:=row_lt hEnd.dm.bb;have l10:=row_lt hEnd.dm.frm;have l11:=row_lt hEnd.dm.byb;have HEnd:=dh hEnd;have Hgood:=dh hgood;have Hpath:=dh hpath;clear hgood hpath hvv HR hEnd;cases hmet:metB a D b
  ·rw [hmet] at hlk;have Hmet:=dh hmet;clear hmet;gi_wp2_with fail;simp only [Exit.noGoto];refine leaves_marks (B:=W3.heap.size) l W HEnd.out.mks HEnd.out.size (fun W' hT=>⟨.tuple #[.slice none 0 0,.bool false,.int .i64 0],by simp [results,Tryz.results38,go_sem],?_⟩);refine ⟨_,by rw [<- HEnd.out.met,Hmet.out],?_,Below.trans HEnd.out.dm.ext (Below.mono hT.1 hwW3)⟩;rw [<- Hpath.out,back_none (fun d hd e=>by
    have:=(metB_iff a D b).2 (Or.inr ⟨d,by simpa using hd,e⟩);rw [Hmet.out] at this; cases this)]
   exact SlW.nil _ _ _
  ·rw [hmet] at hlk;have Hmet:=dh hmet;clear hmet;obtain ⟨i0,hi,hz0,hz1,hz2⟩:=info_parts info93;gi_wp2_with fail;clear hlk c5
   gi_loopg [19,20] ((back D.reverse b).length) (fun gk v19 v20 wr=>∃ (t:Nat) (L:List Stp),v20=.int .i64 t/\Hid (gk=(back D.reverse t).length/\metB a D t=true/\L++back D.reverse t=back D.reverse b/\wr.ownsRow W.heap.size 93 3 v19 L.length (stpsC L)/\Ext W wr))
   case atStart=>exact ⟨b,[],rfl,dh ⟨rfl,Hmet.out,rfl,World.ownsRow_nil _ _ _ _,Ext.refl _⟩⟩
   case round =>
    obtain ⟨t,L,rfl,hH⟩:=hrel;obtain ⟨hgk,hmt,hL,hown,hE⟩:=hH.out;have hLl:L.length+(back D.reverse t).length<=400:=by
     have h1:=congrArg List.length hL;rw [List.length_append] at h1;have h2:=back_len D.reverse b;rw [List.length_reverse] at h2;omega
    obtain ⟨a9,c9,rfl⟩:=owns_slice hown;have hgm:=HEnd.out.dm.grow hE;have hWs:=hE.size;have e10:wr.cell? ⟨b10,0,none⟩=some (.map (some fm)):=row_cell hgm.frm rfl;have e11:wr.cell? ⟨b11,0,none⟩=some (.map (some bm)):=row_cell hgm.byb rfl;have m10:=row_lt hgm.frm;have m11:=row_lt hgm.byb;have Hgk:=dh hgk;have HL:=dh hL;have HE:=dh hE;have Hgm:=dh hgm;have Hmt:=dh hmt;clear hH hgk hL hE hgm hmt c10 c11 l5 l10 l11;by_cases hta:t=a
    ·have hq:((t:Int) != (a:Int))=false:=by simp [hta]
     have Hta:=dh hta;have Hown:=dh hown;clear hta hown;have Hback:Hid (back D.reverse b=L):=dh (by
      have h1:=HL.out;rw [Hta.out,back_self Hgood.out,List.append_nil] at h1;exact h1.symm)
     gi_wp2_with fail;have hlst:∀ y,y∈L.reverse->OkStp 400 y:=fun y hy=>by
      have h1:=back_chain Hgood.out (t:=b) (by
       rcases (metB_iff a D b).1 Hmet.out with e | ⟨d,hd,e⟩
       ·exact Or.inl e
       ·exact Or.inr ⟨d,by simpa using hd,e⟩)
      rw [Hback.out] at h1;obtain ⟨x,hx1,hx2⟩:=chain_mem h1 y hy;have hxn:x<g.length:=reach_lt (succ:=succS (stF g C rs)) ha (fun z hz u hu=>by
       obtain ⟨s,hm,rfl⟩:=List.mem_map.1 hu;exact Hst.out z hz s hm) hx1
      have h2:=stepsTo_ok (Hrr.out x hxn) hr60 Hrt.out 8 y hx2;exact ⟨h2.1,by have:=h2.2.1; omega,h2.2.2⟩
     have Hlst:=dh hlst;have Hderive:Hid (deriveL a (stF g C rs) g.length b=L.reverse):=dh (by rw [<- Hpath.out,Hback.out]);have hLl2:L.length<=400:=by omega
     have Hmw:=dh (HEnd.out.mks.ext HE.out);clear hlst hLl;cases hLc:L with
     | nil =>
      have HLc:=dh hLc;clear hLc;refine ⟨trivial,callsIn_wide.2 ((reverseNil73 _ _ _).mono ?_)⟩;rintro e w5 ⟨rfl,rfl⟩;gi_wp2_with fail;simp only [Exit.noGoto];refine leaves_marks (B:=W3.heap.size) l w5 Hmw.out (Nat.le_trans HEnd.out.size HE.out.size) (fun W' hT=>⟨.tuple #[.slice a9 0 c9,.bool true,.int .i64 0],by simp [results,Tryz.results38,go_sem],?_⟩);refine ⟨_,by rw [<- HEnd.out.met,Hmet.out],?_,Below.trans (HEnd.out.dm.ext.trans HE.out) (Below.mono hT.1 hwW3)⟩;rw [Hderive.out,HLc.out];exact ⟨a9,c9,rfl,Nat.zero_le _,by simp,fun i x hx=>by simp at hx⟩
     | cons s0 L0 =>
      have HLc:=dh hLc;have ho:=Hown.out;obtain ⟨g7,rfl⟩:∃ g7,a9=some ⟨g7,0,none⟩:=by
       rcases ho.2 with ⟨h,h'⟩ | ⟨g7,cap7,cur7,h,h1,h2,h3,h4,h5,h6⟩
       ·rw [hLc] at h'; simp at h'
       ·cases h; exact ⟨g7,rfl⟩
      obtain ⟨hsr,-,hcap,hbase⟩:=stepsRow_of_owns ho;have hlen:L.length=L0.length+1:=by rw [hLc]; simp
      have hrev:=dh (reverse73 g7 L0.length c9 (nth L) wr (by omega) (by omega) (by rw [<- hlen]; exact hsr));obtain ⟨cur7,hcur7,-⟩:=id hsr;have Hcur7:=dh hcur7;have Hlen:=dh hlen;clear hLc ho hsr hlen hcur7;simp only [List.length_cons];refine ⟨trivial,callsIn_wide.2 (hrev.out.mono ?_)⟩;rintro e w5 ⟨rfl,hS5,hg5⟩;have HS5:=dh (show StepsRow w5 g7 L.reverse.length (nth L.reverse) from by
       rw [List.length_reverse,Hlen.out];refine hS5.congr fun p hp=>?_;have hp1:p<L.reverse.length:=by rw [List.length_reverse,Hlen.out]; exact hp
       have hp2:L0.length+1-1-p<L.length:=by rw [Hlen.out]; omega
       rw [nth_eq hp1,nth_eq hp2,List.getElem_reverse]
       congr 1
       rw [Hlen.out])
      have Hm5:=dh (Hmw.out.grown hg5 (fun o ho=>by rw [Hcur7.out] at ho; cases ho; rfl));have HE5:=dh (show Ext w w5 from (HEnd.out.dm.ext.trans HE.out).grown hg5 (HEnd.out.dm.ext.trans HE.out).size (fun k e=>by cases e; exact Nat.le_trans HEnd.out.dm.ext.size hbase));have hs5:W3.heap.size<=w5.heap.size:=Nat.le_trans (Nat.le_trans HEnd.out.size HE.out.size) hg5.size;clear hS5 hg5;gi_wp2_with fail;simp only [Exit.noGoto];refine leaves_marks (B:=W3.heap.size) l w5 Hm5.out hs5 (fun W' hT=>⟨.tuple #[.slice (some ⟨g7,0,none⟩) (L0.length+1) c9,.bool true,.int .i64 0],by simp [results,Tryz.results38,go_sem],?_⟩);refine ⟨_,by rw [<- HEnd.out.met,Hmet.out],?_,Below.trans HE5.out (Below.mono hT.1 hwW3)⟩;rw [Hderive.out];obtain ⟨cur,k1,k2⟩:=HS5.out;have h9:StepsRow W' g7 L.reverse.length (nth L.reverse):=⟨cur,hT.2 _ _ _ _ k1,k2⟩;have h8:=h9.steps (cap:=c9) (by rw [List.length_reverse]; exact hcap) (by rw [List.length_reverse]; omega) Hlst.out;rw [List.length_reverse,Hlen.out] at h8;exact h8
    ·have hq:((t:Int) != (a:Int))=true:=by simp; omega
     obtain ⟨x,s,hf,hbv,hbk,hmx⟩:=met_next Hgood.out hta Hmt.out;have hlkb:=Hgm.out.mb.lookup Tryz.underlying132 zero93 t;rw [hbv] at hlkb;simp only [Option.getD_some,encV] at hlkb;have Hf:=dh hf;have Hbk:=dh hbk;have Hmx:=dh hmx;have hLl2:L.length+1<=400:=by rw [hbk] at hLl; simp at hLl; omega
     obtain ⟨m,hm⟩:∃ m,m=L.length:=⟨_,rfl⟩;rw [<- hm] at hown hLl2 ⊢;obtain ⟨cs,hcs⟩:∃ cs,cs=stpsC L:=⟨_,rfl⟩;rw [<- hcs] at hown;have Hm:=dh hm;have Hcs:=dh hcs;have Hta:=dh hta;clear hm hcs hta hf hbv hbk hmx hLl;have hown2:=hown.alloc (.cells #[.agg #[.int .u8 s.rule,.int .i64 s.to_,.int .i64 s.n]] 93);gi_wp2_with (gi_at_builtin; refine wpListIn_append_own _ rfl (.tmp 87) (.tmp 91) 67 rfl W.heap.size 93 i0 (.agg #[.int .u8 0,.int .i64 0,.int .i64 0]) 3 24 Tryz.underlying67 hi hz0 hz1 hz2 rfl (by decide) (.slice a9 m c9) m cs rfl (hown.alloc _) ⟨wr.heap.size,0,none⟩ 1 1 (stpC s) rfl rfl ?c1 ?c2 ?c3 ?c4 ?c5 ?_)
     case c1 =>
      intro j u hj;rw [Addr.add_lit,Nat.zero_add];exact row_cell (heap_alloc_new wr (.cells #[.int .u8 (s.rule:Nat),.int .i64 (s.to_:Nat),.int .i64 (s.n:Nat)] 93)) (by simpa [stpC] using hj)
     case c2 =>
      intro u hu;simp only [stpC,List.mem_cons,List.not_mem_nil,or_false] at hu;rcases hu with rfl | rfl | rfl <;> rfl
     case c3=>unfold maxLen; omega
     case c4=>omega
     case c5=>rw [World.size_alloc]; omega
     intro v' w3 hown3 hgrow3 _;have hE3:Ext W w3:=below_grown HE.out hWs hown hgrow3;have hgm3:=HEnd.out.dm.grow hE3;have hlkf:=hgm3.mf.lookup Tryz.underlying131 zero3 t;rw [Hf.out] at hlkf;simp only [Option.getD_some] at hlkf;have e310:w3.cell? ⟨b10,0,none⟩=some (.map (some fm)):=row_cell hgm3.frm rfl;obtain ⟨a8,c8,rfl⟩:=owns_slice hown3;have HE3:=dh hE3;have Hown3:=dh hown3;clear hown3 hgrow3 hE3 hgm3 hlkb hown hown2 e10 e11;gi_wp2_with fail
     go_roundg ((back D.reverse x).length)
     case measure=>rw [Hgk.out,Hbk.out]; simp
     case rel =>
      refine ⟨x,L++[s],rfl,dh ⟨rfl,Hmx.out,?_,?_,HE3.out⟩⟩
      ·have h1:=HL.out;rw [Hbk.out] at h1
       simpa using h1
      ·have h1:=Hown3.out;rw [Hcs.out] at h1;rw [stpsC_snoc,List.length_append,<- Hm.out];exact h1
end Go.Proofs.YtjffkeoajkhbmaaGreat
