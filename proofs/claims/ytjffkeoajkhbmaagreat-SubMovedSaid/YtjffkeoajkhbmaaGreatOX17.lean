/- A function whose loop holds a range over a function leaves with a mark for each round; visiting a class. The set and the queue of a search, while it goes on. -/
import Derived.Test.YtjffkeoajkhbmaaGreatOX11
import Derived.Test.YtjffkeoajkhbmaaGreatOX16
namespace Go.Proofs.YtjffkeoajkhbmaaGreat
set_option linter.unusedSimpArgs false
set_option linter.unusedVariables false
set_option maxRecDepth 100000
set_option maxHeartbeats 8000000
section
open Go.RowKit Go.Proofs Go.Shelf
attribute [local go_sem] Oper.semAt_some
structure MarksW (B:Nat) (l:List Nat) (W:World):Prop where
 nd:l.Nodup
 each:∀ D,D∈l->B<=D/\W.heap[D]? = some (.deferred (some []))
def marks (l:List Nat):List Deferred:=l.map fun D=>{ target:=.collected D,args:=#[] }
theorem MarksW.nil (B:Nat) (W:World):MarksW B [] W:=⟨List.nodup_nil,fun D h=>by cases h⟩
theorem MarksW.cons {B D:Nat} {l:List Nat} {W:World} (h:MarksW B l W) (hB:B<=D) (hD:D∉l) (hW:W.heap[D]? = some (.deferred (some []))):MarksW B (D :: l) W :=
 ⟨List.nodup_cons.2 ⟨hD,h.nd⟩,fun E hE=>by
  rcases List.mem_cons.1 hE with rfl | hE
  ·exact ⟨hB,hW⟩
  ·exact h.each E hE⟩
theorem MarksW.grown {B:Nat} {l:List Nat} {W W':World} {b:Nat} (h:MarksW B l W) (hg:W.grownBy W' (some b)) (hb:∀ o,W.heap[b]? = some o->o.isCells=true):MarksW B l W' :=
 ⟨h.nd,fun D hD=>⟨(h.each D hD).1,(hg.block D (row_lt (h.each D hD).2) (fun e=>by have e:=Option.some.inj e; rw [e] at hD; have:=hb _ (h.each b hD).2; cases this)).trans (h.each D hD).2⟩⟩
theorem MarksW.lt {B:Nat} {l:List Nat} {W:World} (h:MarksW B l W):∀ D,D∈l->D<W.heap.size:=fun D hD=>row_lt (h.each D hD).2
def TakenW (B:Nat) (W W':World):Prop:=Below B W W'/\(∀ (j:Nat) (cs:Array Value) (T:TypeId) (p:Nat × Nat),W.heap[j]? = some (.cells cs T p)->W'.heap[j]? = some (.cells cs T p))
theorem leaves_marks {F:Fence} {n:Nat} {P:Program} {fn:Func} {tmps:Array Value} {R:Ending->World->Prop} {B:Nat}:∀ (l:List Nat) (W:World),MarksW B l W->B<=W.heap.size->(∀ W',TakenW B W W'->LeavesIn F n P fn tmps R [] .returning W')->LeavesInM F n P fn tmps R (marks l) .returning W
 | [],W,_,_,h=>h W ⟨Below.refl _ _,fun _ _ _ _ h=>h⟩
 | D :: l,W,hm,hB,h=>by
  have hD:=hm.each D (List.mem_cons_self ..);have hnd:=List.nodup_cons.1 hm.nd;refine ⟨by simp,.inl ⟨D,W.putObj D (.deferred none),rfl,run_takeDeferred hD.2,?_⟩⟩;refine leaves_marks l (W.putObj D (.deferred none)) ⟨hnd.2,fun E hE=>⟨(hm.each E (List.mem_cons_of_mem _ hE)).1,?_⟩⟩ (by simpa [World.putObj] using hB) (fun W' hT=>h W' ⟨?_,fun j cs T p hj=>hT.2 j cs T p ?_⟩)
  ·have hne:E≠D:=fun e=>hnd.1 (e ▸ hE);exact (World.putObj_heap_other hne).trans (hm.each E (List.mem_cons_of_mem _ hE)).2
  ·refine Below.trans ?_ hT.1;exact (Below.refl B W).grown (grownBy_putObj' W D _) hB (fun k e=>by cases e; exact hD.1)
  ·have hne:j≠D:=fun e=>by subst e; rw [hD.2] at hj; cases hj
   exact (World.putObj_heap_other hne).trans hj
theorem ups123 (vb:Nat) (t:Int) (w:World):Calls Tryz.prog 123 #[.pointer (some ⟨vb,0,none⟩),.int .i64 t] w fun e w' =>
  e=.returned (.func (.func 155) #[] #[.pointer (some ⟨w.heap.size,0,none⟩),.pointer (some ⟨w.heap.size+1,0,none⟩)]) /\
  w'=(w.alloc (.cells #[.pointer (some ⟨vb,0,none⟩)] 28)).alloc (.cells #[.int .i64 t] 3):=by
 go_enter Tryz.func123,Tryz.ntmps123
 go_wp2;go_ret;exact ⟨rfl,rfl⟩
theorem enters155:Enters Tryz.prog 155:=enters_of Tryz.func155 (by kernel_rfl) rfl
theorem enters122:Enters Tryz.prog 122:=enters_of Tryz.func122 (by kernel_rfl) rfl
theorem visitC_met {succ:Nat->List Nat} {f:Nat} {st:Nat->Nat} {c:Nat} (h:0<st c):visitC succ (f+1) st c=(st c==1,st):=by simp only [visitC,if_pos h]
def VisPost (W:World) (bs n:Nat) (r:Bool × (Nat->Nat)) (e:Ending) (W':World):Prop:=e=.returned (.bool r.1)/\StW W' bs n r.2/\W.grownBy W' (some bs)
theorem result_cell {fn:Func} {t:Tmp} {T:TypeId} {b:Nat} {x:Bool} (h:fn.results=#[.cell t T]) (hT:T=4) {tmps:Array Value} (ht:tmps.getD t undef=.pointer (some ⟨b,0,none⟩)) {w:World} (hc:w.cell? ⟨b,0,none⟩=some (.bool x)) :
  (results fn tmps).run Tryz.prog w=.ok (.bool x) w:=by
 subst hT;have ht':tmps[t]?.getD undef=.pointer (some ⟨b,0,none⟩):=by simpa using ht
 simp [results,h,ht',go_sem,hc]
theorem visit_met (succ:Nat->List Nat) (f:Nat) (w0:World) (bst bv bvis bs n vb:Nat) (st:Nat->Nat) (c:Nat) (W:World) (hv:VisW w0 W bst bv bvis bs n vb) (hs:StW W bs n st) (h2:st c<=2) (hc:c<n) (hn:n<=400) (hm:0<st c) :
  Calls Tryz.prog 122 #[.int .i64 c,.pointer (some ⟨bst,0,none⟩),.pointer (some ⟨bv,0,none⟩),.pointer (some ⟨bvis,0,none⟩)] W (VisPost W bs n (visitC succ (f+1) st c)):=by
 have Hs:=dh (visitC_met (succ:=succ) (f:=f) hm);have x1:=row_cell hv.st (j:=0) rfl;have e0:=hs.at hc;have hb1:=row_lt hv.st;have hb2:=row_lt hs;have HS:=dh hs;obtain ⟨q,hq⟩:∃ q,q=st c:=⟨_,rfl⟩;rw [<- hq] at e0 h2 hm;have Hq:=dh hq;clear hs hv hq
 go_enter Tryz.func122,Tryz.ntmps122
 go_wp2_with fail;refine bodyPost_ret (v:=.bool ((q:Int)==1)) (result_cell (fn:=Tryz.f122) rfl rfl rfl (cell_new1 W _ 4)) rfl ?_;refine ⟨ret_bool ?_,by rw [Hs.out]; exact ((Ext.alloc W _).block bs hb2).trans HS.out,grownBy_ext (grownBy_refl W _) (Ext.alloc W _)⟩;rw [Hs.out,<- Hq.out];show ((q:Int)==1)=(q==1)
 rw [Bool.eq_iff_iff]; simp; omega
theorem StW.ext {W W':World} {bs n:Nat} {st:Nat->Nat} (h:StW W bs n st) (hE:Ext W W'):StW W' bs n st:=(hE.block bs (row_lt h)).trans h
theorem grownBy_new {A B D:World} {b row:Option Nat} (h:A.grownBy B b) (hg:B.grownBy D row) (hr:∀ r,row=some r->A.heap.size<=r):A.grownBy D b :=
 ⟨hg.os.trans h.os,hg.tape.trans h.tape,hg.output.trans h.output,Nat.le_trans h.size hg.size,fun j hj hb=>(hg.block j (Nat.lt_of_lt_of_le hj h.size) (fun e=>by have:=hr j e.symm; omega)).trans (h.block j hj hb)⟩
theorem grownBy_below {A B D:World} {b:Option Nat} {n:Nat} (h:A.grownBy B b) (hB:Below n B D) (hn:A.heap.size<=n):A.grownBy D b :=
 ⟨hB.os.trans h.os,hB.tape.trans h.tape,hB.output.trans h.output,Nat.le_trans h.size hB.size,fun j hj hb=>(hB.block j (by omega)).trans (h.block j hj hb)⟩
theorem grownBy_setB (W:World) (b j:Nat) (v:Value):W.grownBy (W.setCell ⟨b,j,none⟩ v) (some b):=grownBy_set (grownBy_refl W _) j v
theorem set_row_self {W:World} {b:Nat} {T:TypeId} {v:Value} (h:W.heap[b]? = some (.cells #[v] T (0,0))) (u:Value):(W.setCell ⟨b,0,none⟩ u).heap[b]? = some (.cells #[u] T (0,0)):=row_set h
theorem set_row_other {W:World} {b b' j:Nat} (hne:b'≠b) (u:Value):(W.setCell ⟨b,j,none⟩ u).heap[b']? = W.heap[b']? := Below.heap_setCell _ _ _ _ hne
structure Turned2 (A D:World) (b b':Nat):Prop where
 os:D.os=A.os
 tape:D.tape=A.tape
 output:D.output=A.output
 size:A.heap.size<=D.heap.size
 block:∀ j,j<A.heap.size->j≠b->j≠b'->D.heap[j]? = A.heap[j]?
theorem Turned2.new {A B D:World} {b b':Nat} {row:Option Nat} (h:Turned2 A B b b') (hg:B.grownBy D row) (hr:∀ r,row=some r->A.heap.size<=r):Turned2 A D b b' :=
 ⟨hg.os.trans h.os,hg.tape.trans h.tape,hg.output.trans h.output,Nat.le_trans h.size hg.size,fun j hj h1 h2=>(hg.block j (Nat.lt_of_lt_of_le hj h.size) (fun e=>by have:=hr j e.symm; omega)).trans (h.block j hj h1 h2)⟩
theorem kpf_foot (b:Nat):FootOk (b+1) (fun _ j=>j=b):=⟨fun _ _ _ _ _ h=>Or.inl h,fun W _ _ hN _ h=>by omega,fun _ _ _ _ _ _ _ _ h=>h⟩
theorem kpf_grown {n b:Nat} {A B:World} (hg:A.grownBy B (some b)) (hn:n<=A.heap.size) (hb:n<=b):KpF n (fun _ j=>j=b) A B :=
 ⟨(Below.refl n A).grown hg hn (fun k e=>by cases e; exact hb),fun j cs T p hj h=>(hg.block j (row_lt h) (fun e=>hj (Option.some.inj e))).trans h,fun j _ _ _ _ h=>h⟩
structure VisRel (g:List Ty) (C:Nat->Nat) (rs:List Reveal) (f bst bv bvis bs vb b5:Nat) (w0 W1:World) (st1:Nat->Nat) (c k:Nat) (l:List Nat) (wr:World):Prop where
 le:k<=g.length
 st:∃ st',loopC (visitC (succC g C rs) (f+1)) (succTo g C rs k c) st1=(false,st')/\StW wr bs g.length st'
 vis:VisW w0 wr bst bv bvis bs g.length vb
 gr:W1.grownBy wr (some bs)
 b5:wr.heap[b5]? = some (.cells #[.bool false] 4 (0,0))
 mks:MarksW W1.heap.size l wr
theorem visit_new (f:Nat) (bs vb:Nat) (g:List Ty) (C:Nat->Nat) (rs:List Reveal) (S:List Nat) (gv cv rv av:Value) (mb:Nat) (mm:List (BA × Value)) (w0:World) (hv:EnvW w0 vb g C rs S gv cv rv av) (hby:ByAt w0 vb rs mb mm)
  (hn:g.length<=400) (hr60:rs.length<=60) (hr:∀ t,t<g.length->rightB g (nth g t)=true) (hrt:∀ i,i<rs.length->0<=(nth rs i).type/\(nth rs i).type<g.length) (hC:∀ i,i<g.length->C i<g.length)
  (bst bv bvis:Nat)
  (ih:∀ (st:Nat->Nat) (c:Nat) (W:World),VisW w0 W bst bv bvis bs g.length vb->StW W bs g.length st->zeros g.length st<=f->(∀ j,st j<=2)->c<g.length ->
   Calls Tryz.prog 122 #[.int .i64 c,.pointer (some ⟨bst,0,none⟩),.pointer (some ⟨bv,0,none⟩),.pointer (some ⟨bvis,0,none⟩)] W (VisPost W bs g.length (visitC (succC g C rs) (f+1) st c)))
  (st:Nat->Nat) (c:Nat) (W:World) (hV:VisW w0 W bst bv bvis bs g.length vb) (hs:StW W bs g.length st) (hz:zeros g.length st<=f+1) (h2:∀ j,st j<=2) (hc:c<g.length) (h0:st c=0) :
  Calls Tryz.prog 122 #[.int .i64 c,.pointer (some ⟨bst,0,none⟩),.pointer (some ⟨bv,0,none⟩),.pointer (some ⟨bvis,0,none⟩)] W (VisPost W bs g.length (visitC (succC g C rs) (f+1+1) st c)):=by
 obtain ⟨ga,gc,rfl,-⟩:=id hv.gr;obtain ⟨ca,cc,rfl,-⟩:=id hv.cl;have hb:=(SlW.bound hv.gr).2;have hb1:=row_lt hV.st;have hb2:=row_lt hs;have hb3:=row_lt hV.v;have Hv:=dh hv;have Hby:=dh hby;have x1:=row_cell hV.st (j:=0) rfl;have x2:=row_cell hV.v (j:=0) rfl;have e0:=hs.at hc;rw [h0] at e0;have fr0:=hs.free c;have c0:=hV.ext.cell hv.c0;have hlo:=hV.lo;have hcl:((List.range g.length).map fun i=>(C i:Int)).length=g.length:=by simp
 have hvl:=cell_lt hv.c0;have hne1:=hV.ne.1;have hne2:=hV.ne.2.1;have hne3:vb≠bs:=by have:vb<w0.heap.size:=hvl; omega
 have hlv:vb<W.heap.size:=cell_lt c0;clear hv hby;refine (callsIn_wide (n:=3)).1 ?_;refine callsIn_of_wp_marks Tryz.func122 rfl trivial ?_ rfl;simp only [Tryz.ntmps122,List.size_toArray,List.length_cons,List.length_nil,Nat.reduceAdd,Nat.reduceSub,Array.replicate_succ,Array.replicate_zero,List.push_toArray,List.append_toArray,List.nil_append,List.cons_append]
 gi_upto_region 5 with (fail)
 obtain ⟨b5,hb5⟩:∃ b5,b5=W.heap.size:=⟨_,rfl⟩;obtain ⟨W1,hW1⟩:∃ W1:World,W1=((W.setCell ⟨bs,c,none⟩ (.int .i64 1)).alloc (.cells #[.bool false] 4)):=⟨_,rfl⟩;rw [<- hb5,<- hW1];have hg1:W.grownBy W1 (some bs):=by rw [hW1]; exact grownBy_ext (grownBy_set (grownBy_refl W _) c _) (Ext.alloc _ _)
 have hs1:StW W1 bs g.length (upd st c 1):=by rw [hW1]; exact (hs.set (c:=c) (v:=1)).ext (Ext.alloc _ _)
 have hk5:W1.heap[b5]? = some (.cells #[.bool false] 4 (0,0)):=by
  rw [hW1,hb5];have:=heap_alloc_new (W.setCell ⟨bs,c,none⟩ (.int .i64 1)) (.cells #[.bool false] 4)
  rwa [show (W.setCell ⟨bs,c,none⟩ (.int .i64 1)).heap.size=W.heap.size by simp [World.setCell]] at this
 have hV1:=hV.kept hg1;have hz1:zeros g.length (upd st c 1)<=f:=by have:=zeros_upd hc h0 (v:=1) (by decide); omega
 have h21:∀ j,upd st c 1 j<=2:=fun j=>by unfold upd; split; omega; exact h2 j
 have hbne:b5≠bs:=by omega
 have hb5W:W.heap.size<=b5:=by omega
 have HG1:=dh hg1;have HV1:=dh hV1;have HS1:=dh hs1;have HK5:=dh hk5;have HR:=dh hr;have HRT:=dh hrt;have HC:=dh hC;have IH:=dh ih;have H21:=dh h21;have Hnew:=dh (show visitC (succC g C rs) (f+1+1) st c=if (loopC (visitC (succC g C rs) (f+1)) (succC g C rs c) (upd st c 1)).1 then loopC (visitC (succC g C rs) (f+1)) (succC g C rs c) (upd st c 1) else (false,upd (loopC (visitC (succC g C rs) (f+1)) (succC g C rs c) (upd st c 1)).2 c 2) by
  conv=>lhs; unfold visitC
  rw [if_neg (by omega)])
 clear x1 x2 e0 fr0 c0 hV hs hz h2 h0 hr hrt hC ih hg1 hV1 hs1 hk5 h21 hW1 hlv hb1 hb2 hb3 hb5;refine wpIn_loop (fun a9 wr=>∃ (k:Nat) (l:List Nat) (u6 u28 u29 u30 u31 u32 u33 u34 u35 u36 u37 u38 u39 u40 u41 u42 u54:Value),VisRel g C rs f bst bv bvis bs vb b5 w0 W1 (upd st c 1) c k l wr/\a9={ tmps:=#[.int .i64 c,.pointer (some ⟨bst,0,none⟩),.pointer (some ⟨bv,0,none⟩),.pointer (some ⟨bvis,0,none⟩),undef,.pointer (some ⟨b5,0,none⟩),u6,undef,.slice (some ⟨bs,0,none⟩) g.length g.length,.int .i64 c,.pointer (some ⟨bs,c,none⟩),.int .i64 0,.bool false,undef,undef,undef,undef,undef,.slice (some ⟨bs,0,none⟩) g.length g.length,.int .i64 c,.pointer (some ⟨bs,c,none⟩),.pointer (some ⟨vb,0,none⟩),.pointer (some ⟨vb,0,none⟩),.pointer (some ⟨vb,0,none⟩),.pointer (some ⟨vb,0,none⟩),.slice ga g.length gc,.int .i64 g.length,.int .i64 k,u28,u29,u30,u31,u32,u33,u34,u35,u36,u37,u38,u39,u40,u41,u42,undef,undef,undef,undef,undef,undef,undef,undef,undef,undef,undef,u54,undef,undef,undef],defers:=marks l }) (fun a9 _=>g.length-(intOf (a9.tmps.getD 27 undef)).toNat) ?start ?round
 case start =>
  exact ⟨0,[],_,_,_,_,_,_,_,_,_,_,_,_,_,_,_,_,_,⟨Nat.zero_le _,⟨_,rfl,HS1.out⟩,HV1.out,grownBy_refl _ _,HK5.out,MarksW.nil _ _⟩,rfl⟩
 case round =>
  rintro a9 wr ⟨k,l,u6,u28,u29,u30,u31,u32,u33,u34,u35,u36,u37,u38,u39,u40,u41,u42,u54,HR1,rfl⟩;obtain ⟨hk,⟨st',hst,hsw⟩,hV,hg,h5,hm⟩:=HR1;have hd:=hV.ext;have x2:=row_cell hV.v (j:=0) rfl;have c0:=hd.cell Hv.out.c0;have c1:=hd.cell Hv.out.c1;rw [hcl] at c1;by_cases hlt:k<g.length
  ·obtain ⟨cb,coff,hco,_,d1,-⟩:=Ints.at (Ints.mono hd Hv.out.cl) (i:=k) (by rw [hcl]; exact hlt);cases hco;rw [show nth ((List.range g.length).map fun i=>(C i:Int)) k=(C k:Int) by rw [nth_eq (by simpa using hlt)]; simp] at d1;by_cases hck:C k=c
   ·have hne:(((C k:Nat):Int) != (c:Int))=false:=by rw [hck]; simp
    have hz':zeros g.length st'<=f:=by
     have:=zeros_le (n:=g.length) (loopC_mono (succC g C rs) (f+1) (succTo g C rs k c) (upd st c 1) H21.out).1;simp only [hst] at this; omega
    have hsm:=succTo_hit (g:=g) (rs:=rs) hck;have hpre:=succTo_prefix g C rs c g.length (k+1) hlt;have hWl:W.heap.size<=b5:=hb5W;have hb5W1:b5<W1.heap.size:=row_lt HK5.out;have hbsW1:bs<W1.heap.size:=row_lt HS1.out;have Hst:=dh hst;have Hsw:=dh hsw;have HV:=dh hV;have Hg:=dh hg;have H5:=dh h5;have Hm:=dh hm;have Hsm:=dh hsm;have Hpre:=dh hpre;clear hck hst hsw hV hg h5 hm hd hsm hpre;gi_wp2_with fail;refine ⟨trivial,callsIn_wide.2 ((ups123 vb k _).mono ?_)⟩;rintro e W2 ⟨rfl,hW2⟩;have hE2:Ext wr W2:=by rw [hW2]; exact (Ext.alloc _ _).trans (Ext.alloc _ _)
    have p1:W2.heap[wr.heap.size]? = some (.cells #[.pointer (some ⟨vb,0,none⟩)] 28 (0,0)):=by rw [hW2]; exact ((Ext.alloc _ _).block _ (by simp)).trans (heap_alloc_new _ _)
    have p2:W2.heap[wr.heap.size+1]? = some (.cells #[.int .i64 k] 3 (0,0)):=by
     rw [hW2];have:=heap_alloc_new (wr.alloc (.cells #[.pointer (some ⟨vb,0,none⟩)] 28)) (.cells #[.int .i64 k] 3)
     rwa [World.size_alloc] at this
    have hb2:=row_lt Hsw.out;have hgr2:=Hg.out;have hsz2:wr.heap.size<=W2.heap.size:=hE2.size;have HE2:=dh hE2;have hV2:=dh (HV.out.kept (grownBy_ext (grownBy_refl wr _) hE2));have hS2:=dh (Hsw.out.ext hE2);have hx1:=HV.out.ext.trans hE2;have HX:=dh hx1;clear hW2 hE2 hgr2 x2 c0 c1 d1 hx1;gi_wp2_with fail;refine wpIn_rangeFunc_ownG (F:=Fence.wide) rfl (by omega) (gf:=155) (lb:=#[.pointer (some ⟨wr.heap.size,0,none⟩),.pointer (some ⟨wr.heap.size+1,0,none⟩)]) rfl trivial enters155
     (ups155 bs vb g C rs S _ _ rv av mb mm w0 W2 Hv.out Hby.out HX.out hr60 k hlt (HR.out k hlt) HRT.out _ _ p1 p2 (by omega) (by omega) _)
     (fun h k=>h.trans k) (fun W l o o' hl h ho hw=>KpF.put (kpf_foot bs) HX.out.size W l o o' hl h ho hw) (Below.refl _ _) (fun _=>rfl)
     (fun pre W'=>∃ s1,loopC (visitC (succC g C rs) (f+1)) (succTo g C rs k c++pre.map fun u=>C u.1) (upd st c 1)=(false,s1)/\StW W' bs g.length s1/\W2.grownBy W' (some bs))
     (fun cd pre W'=>cd=.ret/\∃ s1,loopC (visitC (succC g C rs) (f+1)) (succTo g C rs k c++pre.map fun u=>C u.1) (upd st c 1)=(true,s1)/\StW W' bs g.length s1/\Turned2 W2 W' bs b5/\W'.heap[b5]? = some (.cells #[.bool true] 4 (0,0)))
     ?hI ?hIx ⟨st',by simpa using Hst.out,hS2.out,grownBy_refl _ _⟩ ?a1 ?assign ?body ?done ?stop
    case assign =>
     intro l x W K hK;gi_wp2;exact hK
    case hI =>
     rintro pre A B row ⟨s1,h1,h2,h3⟩ hg hr;refine ⟨s1,h1,?_,grownBy_new h3 hg (fun r e=>(hr r e).1)⟩;refine (hg.block bs (row_lt h2) (fun e=>?_)).trans h2;obtain ⟨_,o,ho,hoc⟩:=hr bs e.symm;rw [show A.heap[bs]? = _ from h2] at ho;cases ho; cases hoc
    case hIx =>
     rintro cd pre A B row ⟨hcd,s1,h1,h2,h3,h4⟩ hg hr;refine ⟨hcd,s1,h1,?_,h3.new hg (fun r e=>(hr r e).1),?_⟩
     ·refine (hg.block bs (row_lt h2) (fun e=>?_)).trans h2;obtain ⟨_,o,ho,hoc⟩:=hr bs e.symm;rw [show A.heap[bs]? = _ from h2] at ho;cases ho; cases hoc
     ·refine (hg.block b5 (row_lt h4) (fun e=>?_)).trans h4;obtain ⟨_,o,ho,hoc⟩:=hr b5 e.symm;rw [h4] at ho;cases ho; cases hoc
    case body =>
     rintro l9 pre ⟨x,hx⟩ W' ⟨s1,h1,h2,h3⟩ hlen;have hV':=hV2.out.kept h3;have x2:=row_cell hV'.v (j:=0) rfl;have x3:=row_cell hV'.vis (j:=0) rfl;have c1:=hV'.ext.cell Hv.out.c1;rw [hcl] at c1;obtain ⟨cb1,coff1,hco,_,d1,-⟩:=Ints.at (Ints.mono hV'.ext Hv.out.cl) (i:=x) (by rw [hcl]; exact hx);cases hco;rw [show nth ((List.range g.length).map fun i=>(C i:Int)) x=(C x:Int) by rw [nth_eq (by simpa using hx)]; simp] at d1;have hz1':zeros g.length s1<=f/\∀ j,s1 j<=2:=by
      have hmn:=loopC_mono (succC g C rs) (f+1) (succTo g C rs k c++pre.map fun u=>C u.1) (upd st c 1) H21.out;have:=zeros_le (n:=g.length) hmn.1;simp only [h1] at this hmn;exact ⟨by omega,hmn.2⟩
     have hb5l:b5<W2.heap.size:=by have:=row_lt H5.out; omega
     have h5':W'.heap[b5]? = some (.cells #[.bool false] 4 (0,0)):=(h3.block b5 hb5l (fun e=>hbne (Option.some.inj e))).trans ((HE2.out.block b5 (row_lt H5.out)).trans H5.out);have Hcall:=dh (IH.out s1 (C x) W'.drew (hV'.kept (grownBy_ext (grownBy_refl W' _) (Ext.drew _))) (h2.ext (Ext.drew _)) hz1'.1 hz1'.2 (HC.out x hx));have Hsn:=dh (loopC_snoc (visitC (succC g C rs) (f+1)) (succTo g C rs k c++pre.map fun u=>C u.1) (C x) (upd st c 1) (by rw [h1]));have H1:=dh h1;have H3:=dh h3;have H5':=dh h5';have hbsl:bs<W2.heap.size:=row_lt hS2.out;have hsz3:=h3.size;have hlw:w0.heap.size<=W'.heap.size:=hV'.ext.size;clear hV' h1 h2 h3 h5' hz1'
     gi_upto_region 10 with (fail)
     refine wpIn_region_any (by kernel_rfl) ?_;change wpAnyIn _ _ _ _ _ _ _ _ _ (World.drew _);refine Xg 6 5 ?_;refine Xg 1 1 ?_;refine Xg 2 1 ?_;refine Xg 3 1 ?_;refine Xg 4 1 ?_;refine Xg 5 1 ?_;refine Xg 7 1 ?_;refine Xg 8 1 ?_;refine Xg 0 0 ?_;refine wpAnyIn_only (i:=9) rfl (by kernel_rfl) (fun K hK=>?_);go_simp;refine ⟨trivial,CallsIn.inRound l9 (callsIn_wide.2 (Hcall.out.mono ?_))⟩;rintro e W3 ⟨rfl,hs3,hg3⟩;have HS3:=dh hs3;have hg3':=grownBy_trans (grownBy_ext (grownBy_refl W' (some bs)) (Ext.drew _)) hg3;have HG3:=dh hg3';clear hs3 hg3 hg3';refine hK _ _ ?_; clear hK K;refine wpAnyIn_done (by kernel_rfl) ?_ _;cases hr1:(visitC (succC g C rs) (f+1) s1 (C x)).1
     ·have HI:=dh (show loopC (visitC (succC g C rs) (f+1)) (succTo g C rs k c++(pre++[(⟨x,hx⟩:{ u // u<g.length })]).map fun u=>C u.1) (upd st c 1)=(false,(visitC (succC g C rs) (f+1) s1 (C x)).2) by
       have:=Hsn.out;rw [H1.out] at this;rw [List.map_append,<- List.append_assoc];refine this.trans (Prod.ext hr1 rfl))
      gi_wp2_with fail;exact ⟨KeepsFrom.of_grownBy HG3.out (fun j e=>by cases e; exact hbsl),kpf_grown HG3.out hlw hlo,_,HI.out,HS3.out,grownBy_trans H3.out HG3.out⟩
     ·have HI:=dh (show loopC (visitC (succC g C rs) (f+1)) (succTo g C rs k c++(pre++[(⟨x,hx⟩:{ u // u<g.length })]).map fun u=>C u.1) (upd st c 1)=(true,(visitC (succC g C rs) (f+1) s1 (C x)).2) by
       have:=Hsn.out;rw [H1.out] at this;rw [List.map_append,<- List.append_assoc];refine this.trans (Prod.ext hr1 rfl))
      have h5'':=(HG3.out.block b5 (row_lt H5'.out) (fun e=>hbne (Option.some.inj e))).trans H5'.out;have e5:=row_cell h5'' (j:=0) rfl;have f5:=row_free h5'' 0;have H5'':=dh h5'';clear h5'';gi_wp2_with fail;have hge:=grownBy_trans H3.out HG3.out;refine ⟨(KeepsFrom.of_grownBy HG3.out (fun j e=>by cases e; exact hbsl)).trans (KeepsFrom.of_grownBy (grownBy_setB W3 b5 0 (.bool true)) (fun j e=>by cases e; exact hb5l)),rfl,_,HI.out,(set_row_other (by omega) _).trans HS3.out,⟨hge.os,hge.tape,hge.output,by have:=hge.size; simpa [World.setCell] using this,fun j hj h1 h2=>(set_row_other h2 _).trans (hge.block j hj (fun e=>h1 (Option.some.inj e)))⟩,set_row_self H5''.out _⟩
    case done =>
     rintro D xs W' hD hS ⟨s1,h1,h2,h3⟩ hK;have hDl:D∉l:=fun hm=>by have:=Hm.out.lt D hm; omega
     have hWs:=Hg.out.size;have hm2:MarksW W1.heap.size l W':=(Hm.out.grown (b:=bs) (grownBy_ext (grownBy_refl wr _) HE2.out) (fun o ho=>by rw [show wr.heap[bs]? = _ from Hsw.out] at ho; cases ho; rfl)).grown h3 (fun o ho=>by rw [show W2.heap[bs]? = _ from hS2.out] at ho; cases ho; rfl);have HR2:=dh (show VisRel g C rs f bst bv bvis bs vb b5 w0 W1 (upd st c 1) c (k+1) (D :: l) W' from ⟨hlt,⟨s1,by
       rw [Hsm.out,<- hS,List.map_map]; exact h1,h2⟩,hV2.out.kept h3,grownBy_trans Hg.out (grownBy_trans (grownBy_ext (grownBy_refl wr _) HE2.out) h3),
      (h3.block b5 (by have:=row_lt H5.out; omega) (fun e=>hbne (Option.some.inj e))).trans ((HE2.out.block b5 (row_lt H5.out)).trans H5.out),hm2.cons (by omega) hDl hK⟩)
     clear h1 h2 h3 hK hm2 hDl;gi_wp2_with fail;exact ⟨⟨k+1,D :: l,_,_,_,_,_,_,_,_,_,_,_,_,_,_,_,_,_,HR2.out,rfl⟩,by simp [intOf]; omega⟩
    case stop =>
     rintro D cd pre W' hD hS ⟨rfl,s1,h1,h2,h3,h4⟩ hK;have hDl:D∉l:=fun hm=>by have:=Hm.out.lt D hm; omega
     have hWs:=Hg.out.size;have hb5l:b5<W2.heap.size:=by have:=row_lt H5.out; omega
     have hm1:=Hm.out.grown (b:=bs) (grownBy_ext (grownBy_refl wr _) HE2.out) (fun o ho=>by rw [show wr.heap[bs]? = _ from Hsw.out] at ho; cases ho; rfl);have hm2:MarksW W1.heap.size l W':=⟨hm1.nd,fun E hE=>⟨(hm1.each E hE).1,(h3.block E (row_lt (hm1.each E hE).2) (fun e=>by have:=(hm1.each E hE).2; rw [e,show W2.heap[bs]? = _ from hS2.out] at this; cases this) (fun e=>by have:=(hm1.each E hE).1; omega)).trans (hm1.each E hE).2⟩⟩;have hm3:=hm2.cons (by omega) hDl hK;have hfin:=dh (show visitC (succC g C rs) (f+1+1) st c=(true,s1) by
      rw [Hnew.out,loopC_prefix (us:=succTo g C rs k c++pre.map fun u=>C u.1) (us':=succC g C rs c) ?_ (by rw [h1]),h1]
      ·rfl
      ·refine List.IsPrefix.trans ?_ Hpre.out;rw [Hsm.out];refine (List.prefix_append_right_inj _).2 ?_;obtain ⟨r,hr⟩:=hS;exact ⟨r.map C,by rw [<- hr,List.map_append,List.map_map]; rfl⟩)
     gi_wp2_with fail;refine leaves_marks (B:=W1.heap.size) (D :: l) W' hm3 (by have:=h3.size; omega) (fun Wz hT=>⟨.bool true,result_cell (fn:=Tryz.f122) rfl rfl rfl (row_cell (hT.2 _ _ _ _ h4) rfl),?_⟩);rw [hfin.out];have hW2:=grownBy_trans HG1.out (grownBy_trans Hg.out (grownBy_ext (grownBy_refl wr _) HE2.out));refine ⟨rfl,hT.2 _ _ _ _ h2,grownBy_below (n:=W1.heap.size) ⟨h3.os.trans hW2.os,h3.tape.trans hW2.tape,h3.output.trans hW2.output,Nat.le_trans hW2.size h3.size,fun j hj hb=>?_⟩ hT.1 (by omega)⟩;exact (h3.block j (Nat.lt_of_lt_of_le hj hW2.size) (fun e=>hb (by rw [e])) (by omega)).trans (hW2.block j hj hb)
   ·have hne:(((C k:Nat):Int) != (c:Int))=true:=by simp only [bne_iff_ne,ne_eq]; omega
    have HR2:=dh (show VisRel g C rs f bst bv bvis bs vb b5 w0 W1 (upd st c 1) c (k+1) l wr from ⟨hlt,⟨st',by rw [succTo_miss hck]; exact hst,hsw⟩,hV,hg,h5,hm⟩);clear hck hst hsw hV hg h5 hm hd;gi_wp2_with fail;exact ⟨⟨k+1,l,_,_,_,_,_,_,_,_,_,_,_,_,_,_,_,_,_,HR2.out,rfl⟩,by simp [intOf]; omega⟩
  ·have:k=g.length:=by omega
   subst this;have x1:=row_cell hV.st (j:=0) rfl;have e0:=hsw.at hc;have fr0:=hsw.free c;have e5:=row_cell h5 (j:=0) rfl;have f5:=row_free h5 0;have hb5l:=row_lt h5;have hb2:=row_lt hsw;have hWl:W.heap.size<=b5:=hb5W;have hb5W1:b5<W1.heap.size:=row_lt HK5.out;have hbsW1:bs<W1.heap.size:=row_lt HS1.out;have hend:=dh (show ∀ Wz,Wz=(wr.setCell ⟨bs,c,none⟩ (.int .i64 2)).setCell ⟨b5,0,none⟩ (.bool false)->MarksW W1.heap.size l Wz/\W1.heap.size<=Wz.heap.size/\Wz.heap[b5]? = some (.cells #[.bool false] 4 (0,0))/\StW Wz bs g.length (upd st' c 2)/\W.grownBy Wz (some bs) from fun Wz hWz=>by
    have hm1:=hm.grown (grownBy_setB wr bs c (.int .i64 2)) (fun o ho=>by rw [show wr.heap[bs]? = _ from hsw] at ho; cases ho; rfl);have hk5':(wr.setCell ⟨bs,c,none⟩ (.int .i64 2)).heap[b5]? = some (.cells #[.bool false] 4 (0,0)):=(set_row_other hbne _).trans h5;have hm2:=hm1.grown (grownBy_setB _ b5 0 (.bool false)) (fun o ho=>by rw [hk5'] at ho; cases ho; rfl);have hsz:wr.heap.size=Wz.heap.size:=by rw [hWz]; simp [World.setCell]
    subst hWz;refine ⟨hm2,by have:=hg.size; omega,set_row_self hk5' _,?_,?_⟩
    ·exact (set_row_other (by omega) _).trans (hsw.set (c:=c) (v:=2))
    ·exact grownBy_new (grownBy_set (grownBy_trans HG1.out hg) c _) (grownBy_setB _ b5 0 _) (fun r e=>by cases e; exact hWl))
   have Hst:=dh (show visitC (succC g C rs) (f+1+1) st c=(false,upd st' c 2) by rw [Hnew.out,show succC g C rs c=succTo g C rs g.length c from rfl,hst]; rfl);clear hst hsw hV hg h5 hm hd;gi_wp2_with fail;obtain ⟨Wz,hWz⟩:∃ Wz:World,Wz=(wr.setCell ⟨bs,c,none⟩ (.int .i64 2)).setCell ⟨b5,0,none⟩ (.bool false):=⟨_,rfl⟩;rw [<- hWz];obtain ⟨q1,q2,q3,q4,q5⟩:=hend.out Wz hWz;refine leaves_marks (B:=W1.heap.size) l Wz q1 q2 (fun W' hT=>⟨.bool false,result_cell (fn:=Tryz.f122) rfl rfl rfl (row_cell (hT.2 _ _ _ _ q3) rfl),?_⟩);rw [Hst.out];exact ⟨rfl,hT.2 _ _ _ _ q4,grownBy_below q5 hT.1 (by omega)⟩
end
section
open Go.RowKit Go.Proofs Go.Shelf
def bitCells (S:Nat):Array Value:=((List.range 7).map fun j=>Value.int .u64 (wordOf S j:Nat)).toArray
def BitsB (W:World) (b S:Nat):Prop:=W.heap[b]? = some (.cells (bitCells S) 97 (0,0))
theorem BitsB.bits {W:World} {b S:Nat} (h:BitsB W b S):BitsAt W b 0 S:=fun j hj=>by
 rw [Nat.zero_add]; exact row_cell h (by unfold bitCells; simp [hj])
theorem BitsB.add {W:World} {b S t:Nat} (h:BitsB W b S) (ht:t<448):BitsB (W.setCell ⟨b,0+t / 64,none⟩ (.int .u64 (wordOf S (t / 64) ||| 2 ^ (t % 64):Nat))) b (S ||| 2 ^ t):=by
 unfold BitsB at h ⊢;rw [Nat.zero_add,row_set h]
 congr 2
 apply Array.ext_getElem?;intro i;have h7:t / 64<7:=by omega
 by_cases hi:i<7
 ·by_cases hit:i=t / 64
  ·subst hit;unfold bitCells;simp [hi,word_or_same]
  ·rw [Array.getElem?_setIfInBounds_ne (fun e=>hit e.symm)];unfold bitCells;simp [hi,word_or_other S t i hit]
 ·unfold bitCells;rw [Array.getElem?_eq_none (by simp; omega),Array.getElem?_eq_none (by simp; omega)]
def footR (b5 b6:Nat) (W:World) (j:Nat):Prop:=j=b5\/j=b6\/∃ cur,W.heap[j]? = some (.cells cur 3 (0,0))/\2<=cur.size
theorem footR_ok {N b5 b6:Nat} (h5:b5<N) (h6:b6<N):FootOk N (footR b5 b6):=by
 refine ⟨fun W W' j hN hE hf=>?_,fun W cs T hN hT hf=>?_,fun W l o o' j hl ho hj hf=>?_⟩
 ·rcases hf with h | h | ⟨cur,h,hs⟩
  ·exact Or.inl (Or.inl h)
  ·exact Or.inl (Or.inr (Or.inl h))
  ·by_cases hjs:j<W.heap.size
   ·exact Or.inl (Or.inr (Or.inr ⟨cur,(hE.block j hjs).symm.trans h,hs⟩))
   ·exact Or.inr (by omega)
 ·rcases hf with h | h | ⟨cur,h,hs⟩
  ·omega
  ·omega
  ·rw [heap_alloc_new] at h;cases h;rcases hT with h | h
   ·exact h rfl
   ·omega
 ·rcases hf with h | h | ⟨cur,h,hs⟩
  ·exact Or.inl h
  ·exact Or.inr (Or.inl h)
  ·exact Or.inr (Or.inr ⟨cur,(World.putObj_heap_other hj).symm.trans h,hs⟩)
structure RI (w:World) (b4 b5 b6:Nat) (S:Nat) (Q:List Nat) (W:World):Prop where
 set:BitsB W b5 S
 todo:∃ v,W.heap[b6]? = some (.cells #[v] 35 (0,0))/\Tail W w.heap.size v Q
 out:BitsB W b4 0
 ext:Ext w W
 lo:w.heap.size<=b4/\w.heap.size<=b5/\w.heap.size<=b6
theorem RI.grow {w W W':World} {b4 b5 b6 S:Nat} {Q:List Nat} (h:RI w b4 b5 b6 S Q W) (hE:Ext W W'):RI w b4 b5 b6 S Q W':=by
 obtain ⟨v,h1,h2⟩:=h.todo;exact ⟨(hE.block _ (row_lt h.set)).trans h.set,⟨v,(hE.block _ (row_lt h1)).trans h1,h2.ext hE⟩,(hE.block _ (row_lt h.out)).trans h.out,h.ext.trans hE,h.lo⟩
theorem RI.others {w W W':World} {b4 b5 b6 S:Nat} {Q:List Nat} {row:Option Nat} (h:RI w b4 b5 b6 S Q W) (hg:W.grownBy W' row) (hr:∀ r,row=some r->w.heap.size<=r/\∃ o:Obj,W.heap[r]? = some o/\o.isCells=false):RI w b4 b5 b6 S Q W':=by
 have key:∀ (b:Nat) (cs:Array Value) (T:TypeId) (p:Nat × Nat),W.heap[b]? = some (Obj.cells cs T p)->W'.heap[b]? = some (Obj.cells cs T p):=fun b cs T p hb=>(hg.block b (row_lt hb) (fun e=>by
  obtain ⟨_,o,ho,hc⟩:=hr b e.symm;rw [hb] at ho; cases ho; cases hc)).trans hb
 obtain ⟨v,h1,h2⟩:=h.todo;refine ⟨key _ _ _ _ h.set,⟨v,key _ _ _ _ h1,?_⟩,key _ _ _ _ h.out,h.ext.grown hg h.ext.size (fun r e=>(hr r e).1),h.lo⟩;obtain ⟨g,off,cap,cur,rfl,k1,k2,k3,k4,k5,k6⟩:=h2;exact ⟨g,off,cap,cur,rfl,k1,key _ _ _ _ k2,k3,k4,k5,k6⟩
theorem kpf_rows {n b5 b6:Nat} {A D:World} {g:Nat} {cur:Array Value} (hg:A.grownBy D (some g)) (hn:n<=A.heap.size) (hb:n<=g) (hc:A.heap[g]? = some (.cells cur 3 (0,0))) (hor:A.grownBy D none\/2<=cur.size):KpF n (footR b5 b6) A D:=by
 refine ⟨(Below.refl n A).grown hg hn (fun k e=>by cases e; exact hb),fun j cs T p hj h=>?_,fun j cs T p h hf=>?_⟩
 ·by_cases hjg:j=g
  ·subst hjg;rcases hor with h0 | h0
   ·exact (h0.block j (row_lt h) (by simp)).trans h
   ·exact absurd (Or.inr (Or.inr ⟨cur,hc,h0⟩)) hj
  ·exact (hg.block j (row_lt h) (fun e=>hjg (Option.some.inj e))).trans h
 ·rcases hf with h1 | h1 | ⟨cur',h1,h2⟩
  ·exact Or.inl h1
  ·exact Or.inr (Or.inl h1)
  ·by_cases hjg:j=g
   ·subst hjg;rcases hor with h0 | h0
    ·exact Or.inr (Or.inr ⟨cur',(h0.block j (row_lt h) (by simp)).symm.trans h1,h2⟩)
    ·exact Or.inr (Or.inr ⟨cur,hc,h0⟩)
   ·exact Or.inr (Or.inr ⟨cur',(hg.block j (row_lt h) (fun e=>hjg (Option.some.inj e))).symm.trans h1,h2⟩)
theorem kpf_box {n b5 b6 b:Nat} {A:World} (hb:b=b5\/b=b6) (hT:∀ cs T p,A.heap[b]? = some (.cells cs T p)->T≠3) (hn:n<=b) (j:Nat) (v:Value):KpF n (footR b5 b6) A (A.setCell ⟨b,j,none⟩ v):=by
 have hf0:footR b5 b6 A b:=by rcases hb with h | h; exact Or.inl h; exact Or.inr (Or.inl h)
 refine ⟨(Below.refl n A).setCell hn _,fun q cs T p hq h=>(set_row_other (fun e=>hq (by rw [e]; exact hf0)) v).trans h,fun q cs T p h hf=>?_⟩;rcases hf with h1 | h1 | ⟨cur',h1,h2⟩
 ·exact Or.inl h1
 ·exact Or.inr (Or.inl h1)
 ·by_cases hqb:q=b
  ·subst hqb; exact hf0
  ·exact Or.inr (Or.inr ⟨cur',(set_row_other hqb v).symm.trans h1,h2⟩)
theorem kpf_ext {N n b5 b6:Nat} (h5:b5<N) (h6:b6<N) {A D:World} (hn:n<=A.heap.size) (hN:N<=A.heap.size) (hE:Ext A D):KpF n (footR b5 b6) A D:=KpF.ext (footR_ok h5 h6) hn hN hE
theorem slice_tail {W:World} {B:Nat} {v:Value} {x:Nat} {q:List Nat} (h:Tail W B v (x :: q)) :
  ∃ v2,(Instr.sliceAt 35 v (some (.int .i64 1)) none none).run Tryz.prog W=.ok v2 W/\Tail W B v2 q/\v2.ownBlock=v.ownBlock:=by
 obtain ⟨g,off,cap,cur,rfl,h1,h2,h3,h4,h5,h6⟩:=h;simp only [List.length_cons] at h3 h5 ⊢;unfold maxLen at h4;have hc:1<=cap:=by omega
 by_cases hc1:cap=1
 ·subst hc1;have hq:q=[]:=List.eq_nil_of_length_eq_zero (by omega);subst hq;refine ⟨.slice (some ⟨g,off,none⟩) 0 0,?_,⟨g,off,0,cur,by simp,h1,h2,by simp,by unfold maxLen; omega,Or.inl rfl,fun i y hy=>by simp at hy⟩,rfl⟩;go_simp
 ·refine ⟨.slice (some ⟨g,off+1,none⟩) q.length (cap-1),?_,⟨g,off+1,cap-1,cur,rfl,h1,h2,by omega,by unfold maxLen; omega,Or.inr ⟨by omega,by omega⟩,fun i y hy=>by
   have:=h6 (i+1) y (by simpa using hy);rw [show off+1+i=off+(i+1) by omega]; exact this⟩,rfl⟩
  go_simp;intro hlt;omega
end
end Go.Proofs.YtjffkeoajkhbmaaGreat
