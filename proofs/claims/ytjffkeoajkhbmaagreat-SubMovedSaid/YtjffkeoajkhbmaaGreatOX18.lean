/- sub.reach: the set of the types that a type lies below. slices.Reverse, over steps. -/
import Derived.Sort.LoopGhostIn
import Derived.Test.YtjffkeoajkhbmaaGreatOX8
import Derived.Test.YtjffkeoajkhbmaaGreatOX16
import Derived.Test.YtjffkeoajkhbmaaGreatOX17
namespace Go.Proofs.YtjffkeoajkhbmaaGreat
set_option linter.unusedSimpArgs false
set_option linter.unusedVariables false
set_option maxRecDepth 100000
set_option maxHeartbeats 8000000
section
open Go.RowKit Go.Proofs Go.Shelf
attribute [local go_sem] Oper.semAt_some
def succF (g:List Ty) (C:Nat->Nat) (rs:List Reveal) (x:Nat):List Nat:=(stepsL g C rs x).map (·.to_)
theorem succF_lt {g:List Ty} {C:Nat->Nat} {rs:List Reveal} (hr:∀ t,t<g.length->rightB g (nth g t)=true) (h60:rs.length<=60) (hrt:∀ i,i<rs.length->0<=(nth rs i).type/\(nth rs i).type<g.length) :
  ∀ x,x<g.length->∀ u,u∈succF g C rs x->u<g.length:=fun x hx u hu=>by
 unfold succF at hu;obtain ⟨s,hs,rfl⟩:=List.mem_map.1 hu;exact (stepsTo_ok (hr x hx) h60 hrt 8 s hs).2.1
theorem enters106':Enters Tryz.prog 106:=enters_of Tryz.func106 (by kernel_rfl) rfl
structure RchRel (w W1:World) (b4 b5 b6 n:Nat) (succ:Nat->List Nat) (t k:Nat) (l:List Nat) (wr:World):Prop where
 it:∃ S Q,biter succ t k=(S,Q)/\RI w b4 b5 b6 S Q wr
 le:k<=n
 size:W1.heap.size<=wr.heap.size
 mks:MarksW W1.heap.size l wr
def put7 (W:World) (b S:Nat):World:=((((((W.setCell ⟨b,0,none⟩ (.int .u64 (wordOf S 0:Nat))).setCell ⟨b,1,none⟩ (.int .u64 (wordOf S 1:Nat))).setCell ⟨b,2,none⟩ (.int .u64 (wordOf S 2:Nat))).setCell ⟨b,3,none⟩ (.int .u64 (wordOf S 3:Nat))).setCell ⟨b,4,none⟩ (.int .u64 (wordOf S 4:Nat))).setCell ⟨b,5,none⟩ (.int .u64 (wordOf S 5:Nat))).setCell ⟨b,6,none⟩ (.int .u64 (wordOf S 6:Nat))
theorem put7_bits {W:World} {b S0 S:Nat} (h:BitsB W b S0):BitsB (put7 W b S) b S:=by
 have h0:=row_set (j:=0) (v:=.int .u64 (wordOf S 0:Nat)) h;have h1:=row_set (j:=1) (v:=.int .u64 (wordOf S 1:Nat)) h0;have h2:=row_set (j:=2) (v:=.int .u64 (wordOf S 2:Nat)) h1;have h3:=row_set (j:=3) (v:=.int .u64 (wordOf S 3:Nat)) h2;have h4:=row_set (j:=4) (v:=.int .u64 (wordOf S 4:Nat)) h3;have h5:=row_set (j:=5) (v:=.int .u64 (wordOf S 5:Nat)) h4;have h6:=row_set (j:=6) (v:=.int .u64 (wordOf S 6:Nat)) h5;have e:∀ S,bitCells S=#[.int .u64 (wordOf S 0:Nat),.int .u64 (wordOf S 1:Nat),.int .u64 (wordOf S 2:Nat),.int .u64 (wordOf S 3:Nat),.int .u64 (wordOf S 4:Nat),.int .u64 (wordOf S 5:Nat),.int .u64 (wordOf S 6:Nat)]:=fun _=>rfl;refine h6.trans ?_;rw [e S0,e S];simp
theorem put7_grown (W:World) (b S:Nat):W.grownBy (put7 W b S) (some b) :=
 grownBy_trans (grownBy_trans (grownBy_trans (grownBy_trans (grownBy_trans (grownBy_trans (grownBy_setB W b 0 _) (grownBy_setB _ b 1 _)) (grownBy_setB _ b 2 _)) (grownBy_setB _ b 3 _)) (grownBy_setB _ b 4 _)) (grownBy_setB _ b 5 _)) (grownBy_setB _ b 6 _)
theorem result_bits {fn:Func} {t:Tmp} {T:TypeId} {b S:Nat} (h:fn.results=#[.cell t T]) (hT:T=97) {tmps:Array Value} (ht:tmps.getD t undef=.pointer (some ⟨b,0,none⟩)) {W:World} (hc:BitsB W b S) :
  (results fn tmps).run Tryz.prog W=.ok (.agg (bitCells S)) W:=by
 subst hT;have ht':tmps[t]?.getD undef=.pointer (some ⟨b,0,none⟩):=by simpa using ht
 have hb:=hc.bits;have c0:=hb 0 (by decide);have c1:=hb 1 (by decide);have c2:=hb 2 (by decide);have c3:=hb 3 (by decide);have c4:=hb 4 (by decide);have c5:=hb 5 (by decide);have c6:=hb 6 (by decide);simp only [Nat.zero_add] at c0 c1 c2 c3 c4 c5 c6;simp [results,h,ht',go_sem,c0,c1,c2,c3,c4,c5,c6]
 rfl
theorem wpListIn_append_tail {F:Fence} {n:Nat} (W:World) {ops:Array Oper} {rest:List Oper} {o:Oper} {a:Act} {Q:Exit->Act->World->Prop}
  (hg:o.guard=none) (s x:Operand) (hop:o.op=Op.call { callee:=Callee.builtin Builtin.append,args:=#[s,x],argTypes:=#[35,35] }) (hty:o.type=35) {B:Nat} {v:Value} {xs:List Nat} (hT:Tail W B v xs) (ad:Addr) (y:Nat)
  (hs:a.eval s=v) (hx:a.eval x=.slice (some ad) 1 1) (hy:W.cell? ad=some (.int .i64 (y:Nat))) (ha:ad.spot=none) (hn:xs.length<1000000) (hB:B<=W.heap.size)
  (hK:∀ v' W',Hid (Tail W' B v' (xs++[y])/\∃ g cur,v.ownBlock=some g/\W.heap[g]? = some (.cells cur 3 (0,0))/\W.grownBy W' (some g)/\(W.grownBy W' none\/2<=cur.size))->wpListIn F n Tryz.prog ops Q rest (a.put o.dst v') W') :
  wpListIn F n Tryz.prog ops Q (o :: rest) a W:=by
 refine wpListIn_plain hg fun K hK'=>?_;obtain ⟨v',W',hrun,r1,r2⟩:=run_append_tail hT ad y hy ha hn hB;unfold Oper.wpIn;refine ⟨?_,?_⟩
 ·simp [Oper.about,hop,resolve,Target.leads,Sem.run_pure]
 ·rw [Oper.semAt_plain F _ _ (by rw [hop]; intro c hc'; cases hc')];simp [execOp,hop,hty,resolve,invoke,builtin,hs,hx,hrun,Result.andThen];exact hK' _ _ (hK v' W' (dh ⟨r1,r2⟩))
theorem Tail.own {W:World} {B:Nat} {v:Value} {xs:List Nat} (h:Tail W B v xs) {g:Nat} (hg:v.ownBlock=some g):B<=g:=by
 obtain ⟨g0,off,cap,cur,rfl,h1,-⟩:=h;cases hg; exact h1
theorem Tail.setOther {W:World} {B b j:Nat} {v u:Value} {xs:List Nat} (h:Tail W B v xs) {cs:Array Value} {T:TypeId} (hb:W.heap[b]? = some (.cells cs T (0,0))) (hT:T≠3):Tail (W.setCell ⟨b,j,none⟩ u) B v xs:=by
 obtain ⟨g,off,cap,cur,rfl,h1,h2,h3⟩:=h;exact ⟨g,off,cap,cur,rfl,h1,(set_row_other (fun e=>by subst e; rw [h2] at hb; cases hb; exact hT rfl) _).trans h2,h3⟩
theorem RI.setQ {w W:World} {b4 b5 b6 S:Nat} {Q Q':List Nat} {v:Value} (h:RI w b4 b5 b6 S Q W) (hne:b4≠b5/\b4≠b6/\b5≠b6) (hT:Tail W w.heap.size v Q'):RI w b4 b5 b6 S Q' (W.setCell ⟨b6,0,none⟩ v):=by
 obtain ⟨v0,h1,-⟩:=h.todo;exact ⟨(set_row_other hne.2.2 _).trans h.set,⟨v,set_row_self h1 _,hT.setOther h1 (by decide)⟩,(set_row_other hne.2.1 _).trans h.out,h.ext.grown (grownBy_setB W b6 0 v) h.ext.size (fun q e=>by cases e; exact h.lo.2.2),h.lo⟩
theorem RI.add {w W:World} {b4 b5 b6 S u:Nat} {Q:List Nat} (h:RI w b4 b5 b6 S Q W) (hne:b4≠b5/\b4≠b6/\b5≠b6) (hu:u<448):RI w b4 b5 b6 (S ||| 2 ^ u) Q (W.setCell ⟨b5,0+u / 64,none⟩ (.int .u64 (wordOf S (u / 64) ||| 2 ^ (u % 64):Nat))).drew:=by
 obtain ⟨v0,h1,h2⟩:=h.todo;refine RI.grow (W:=W.setCell ⟨b5,0+u / 64,none⟩ (.int .u64 (wordOf S (u / 64) ||| 2 ^ (u % 64):Nat))) ?_ (Ext.drew _);exact ⟨h.set.add hu,⟨v0,(set_row_other hne.2.2.symm _).trans h1,h2.setOther h.set (by decide)⟩,(set_row_other hne.1 _).trans h.out,h.ext.grown (grownBy_setB W b5 _ _) h.ext.size (fun q e=>by cases e; exact h.lo.2.1),h.lo⟩
theorem RI.rows {w W W':World} {b4 b5 b6 S:Nat} {Q:List Nat} {g:Nat} {cur:Array Value} (h:RI w b4 b5 b6 S Q W) (hg:W.grownBy W' (some g)) (hc:W.heap[g]? = some (.cells cur 3 (0,0))) (hgb:w.heap.size<=g) {v:Value} {Q':List Nat} (hT:Tail W' w.heap.size v Q') (hne:b4≠b5/\b4≠b6/\b5≠b6):RI w b4 b5 b6 S Q' (W'.setCell ⟨b6,0,none⟩ v):=by
 obtain ⟨v0,h1,-⟩:=h.todo;have k:∀ (b:Nat) (cs:Array Value) (T:TypeId),T≠3->W.heap[b]? = some (.cells cs T (0,0))->W'.heap[b]? = some (.cells cs T (0,0)):=fun b cs T hT hb=>(hg.block b (row_lt hb) (fun e=>by cases e; rw [hb] at hc; cases hc; exact hT rfl)).trans hb;have h5:=k _ _ _ (by decide) h.set;have h4:=k _ _ _ (by decide) h.out;have h6:=k _ _ _ (by decide) h1;have hx:Ext w W':=h.ext.grown hg h.ext.size (fun q e=>by cases e; exact hgb);exact ⟨(set_row_other hne.2.2 _).trans h5,⟨v,set_row_self h6 _,hT.setOther h6 (by decide)⟩,(set_row_other hne.2.1 _).trans h4,hx.grown (grownBy_setB W' b6 0 v) hx.size (fun q e=>by cases e; exact h.lo.2.2),h.lo⟩
def visN {n:Nat} (pre:List (StpG n)) (s:Nat × List Nat):Nat × List Nat:=(pre.map (·.1.to_)).foldl visit s
theorem MarksW.ext {B:Nat} {l:List Nat} {W W':World} (h:MarksW B l W) (hE:Ext W W'):MarksW B l W':=⟨h.nd,fun D hD=>⟨(h.each D hD).1,(hE.block D (row_lt (h.each D hD).2)).trans (h.each D hD).2⟩⟩
theorem visN_snoc {n:Nat} {pre:List (StpG n)} {y:StpG n} {s:Nat × List Nat} {S':Nat} {Q':List Nat} (h:visN pre s=(S',Q')):visN (pre++[y]) s=visit (S',Q') y.1.to_:=by
 unfold visN at h ⊢;rw [List.map_append,List.foldl_append,h]
 rfl
theorem fold_visit_len:∀ (us:List Nat) (s:Nat × List Nat),(us.foldl visit s).2.length<=s.2.length+us.length
 | [],s=>by simp
 | u :: us,s=>by
  have h:=fold_visit_len us (visit s u);have h2:(visit s u).2.length<=s.2.length+1:=by unfold visit; split <;> simp
  simp only [List.foldl_cons,List.length_cons];omega
theorem reach55 (vb:Nat) (g:List Ty) (C:Nat->Nat) (rs:List Reveal) (S:List Nat) (gv cv rv av:Value) (mb:Nat) (mm:List (BA × Value)) (w:World) (hv:EnvW w vb g C rs S gv cv rv av) (hby:ByAt w vb rs mb mm)
  (hn:g.length<=400) (hr60:rs.length<=60) (hr:∀ t,t<g.length->rightB g (nth g t)=true) (hrt:∀ i,i<rs.length->0<=(nth rs i).type/\(nth rs i).type<g.length) (t:Nat) (ht:t<g.length) :
  Calls Tryz.prog 55 #[.pointer (some ⟨vb,0,none⟩),.int .i64 t] w fun e w'=>e=.returned (.agg (bitCells (reachN (succF g C rs) g.length t)))/\Ext w w':=by
 have hsucc:=succF_lt (C:=C) hr hr60 hrt;obtain ⟨W5,hW5⟩:∃ W5:World,W5=(w.alloc (.cells #[.int .u64 0,.int .u64 0,.int .u64 0,.int .u64 0,.int .u64 0,.int .u64 0,.int .u64 0] 97)).alloc (.cells #[.int .u64 0,.int .u64 0,.int .u64 0,.int .u64 0,.int .u64 0,.int .u64 0,.int .u64 0] 97):=⟨_,rfl⟩;have hb5:BitsB W5 (w.heap.size+1) 0:=by
  rw [hW5];have:=heap_alloc_new (w.alloc (.cells #[.int .u64 0,.int .u64 0,.int .u64 0,.int .u64 0,.int .u64 0,.int .u64 0,.int .u64 0] 97)) (.cells #[.int .u64 0,.int .u64 0,.int .u64 0,.int .u64 0,.int .u64 0,.int .u64 0,.int .u64 0] 97)
  rwa [World.size_alloc] at this
 have hb4:BitsB W5 w.heap.size 0:=by
  rw [hW5];exact ((Ext.alloc _ _).block _ (by simp)).trans (heap_alloc_new _ _)
 have hE5:Ext w W5:=by rw [hW5]; exact (Ext.alloc _ _).trans (Ext.alloc _ _)
 have hs5:W5.heap.size=w.heap.size+2:=by rw [hW5]; simp
 have Hadd:=dh (add88 (w.heap.size+1) 0 0 t (by omega) W5 hb5.bits (fun j=>row_free hb5 _));rw [hW5] at Hadd;refine (callsIn_wide (n:=3)).1 ?_;refine callsIn_of_wp_marks Tryz.func55 rfl trivial ?_ rfl;simp only [Tryz.ntmps55,List.size_toArray,List.length_cons,List.length_nil,Nat.reduceAdd,Nat.reduceSub,Array.replicate_succ,Array.replicate_zero,List.push_toArray,List.append_toArray,List.nil_append,List.cons_append];gi_wp2_with fail;refine ⟨trivial,callsIn_wide.2 (Hadd.out.mono ?_)⟩;rintro e w1 ⟨⟨v10,rfl⟩,hw1⟩;rw [<- hW5] at hw1;have hb51:BitsB w1 (w.heap.size+1) (0 ||| 2 ^ t):=by rw [hw1]; exact hb5.add (t:=t) (by omega)
 have hb41:BitsB w1 w.heap.size 0:=by rw [hw1]; exact (set_row_other (by omega) _).trans hb4
 have hE1:Ext w w1:=by rw [hw1]; exact Below.drew (Below.setCell hE5 (by simp) _)
 have hs1:w1.heap.size=w.heap.size+2:=by rw [hw1,<- hs5]; simp [World.setCell]
 obtain ⟨b4,hb4e⟩:∃ b,b=w.heap.size:=⟨_,rfl⟩;obtain ⟨b5,hb5e⟩:∃ b,b=w.heap.size+1:=⟨_,rfl⟩;obtain ⟨b3,hb3e⟩:∃ b,b=w1.heap.size:=⟨_,rfl⟩;obtain ⟨b6,hb6e⟩:∃ b,b=w1.heap.size+1:=⟨_,rfl⟩;rw [<- hb5e,<- hb4e];clear hw1 hW5 hb5 hb4 hE5 hs5 Hadd;have H5e:=dh hb5e;have H4e:=dh hb4e;have H3e:=dh hb3e;have H6e:=dh hb6e;have Hs1:=dh hs1;clear hb5e hb4e hb3e hb6e hs1
 gi_upto_region 4 with (fail)
 obtain ⟨W1,hW1⟩:∃ W1:World,W1=(w1.alloc (.cells #[.int .i64 t] 3)).alloc (.cells #[.slice (some ⟨w1.heap.size,0,none⟩) 1 1] 35):=⟨_,rfl⟩;obtain ⟨v12,hv12⟩:∃ v12:Value,v12=.slice (some ⟨w1.heap.size,0,none⟩) 1 1:=⟨_,rfl⟩;rw [<- hW1,<- H6e.out,<- hv12];have hE11:Ext w1 W1:=by rw [hW1]; exact (Ext.alloc _ _).trans (Ext.alloc _ _)
 have hsz1:W1.heap.size=w1.heap.size+2:=by rw [hW1]; simp
 have k3:W1.heap[w1.heap.size]? = some (.cells #[.int .i64 t] 3 (0,0)):=by rw [hW1]; exact ((Ext.alloc _ _).block _ (by simp)).trans (heap_alloc_new _ _)
 have k6:W1.heap[b6]? = some (.cells #[v12] 35 (0,0)):=by
  rw [hW1,hv12,H6e.out];have:=heap_alloc_new (w1.alloc (.cells #[.int .i64 t] 3)) (.cells #[.slice (some ⟨w1.heap.size,0,none⟩) 1 1] 35)
  rwa [World.size_alloc] at this
 have h4e:=H4e.out;have h5e:=H5e.out;have h6e:=H6e.out;have hs1:=Hs1.out;have hRI:RI w b4 b5 b6 (2 ^ t) [t] W1:=by
  refine ⟨?_,⟨v12,k6,?_⟩,?_,hE1.trans hE11,by omega,by omega,by omega⟩
  ·rw [h5e,<- Nat.zero_or (2 ^ t)]; exact (hE11.block _ (row_lt hb51)).trans hb51
  ·exact ⟨w1.heap.size,0,1,_,hv12,by omega,k3,by simp,by unfold maxLen; omega,Or.inr ⟨by simp,by simp⟩,fun i x hx=>by
    match i,hx with
    | 0,hx=>simp at hx; subst hx; simp⟩
  ·rw [h4e]; exact (hE11.block _ (row_lt hb41)).trans hb41
 have hN5:b5<W1.heap.size:=by omega
 have hN6:b6<W1.heap.size:=by omega
 have hne:b4≠b5/\b4≠b6/\b5≠b6:=by omega
 have hwW1:w.heap.size<=W1.heap.size:=by omega
 have HRI:=dh hRI;have HR:=dh hr;have HRT:=dh hrt;have Hsu:=dh hsucc;have Hv:=dh hv;have Hby:=dh hby;have Hne:=dh hne;clear hW1 hv12 hE11 hsz1 k3 k6 hRI hr hrt hsucc hv hby hb51 hb41 hE1 h4e h5e h6e hs1 hne;refine wpIn_loop_ghost (fun N9 a9 wr=>∃ (k:Nat) (l:List Nat) (u7 u13 u14 u15 u16 u17 u18 u19 u20 u21 u22 u23:Value),N9+k=g.length+1/\RchRel w W1 b4 b5 b6 g.length (succF g C rs) t k l wr/\a9={ tmps:=#[.pointer (some ⟨vb,0,none⟩),.int .i64 t,undef,undef,.pointer (some ⟨b4,0,none⟩),.pointer (some ⟨b5,0,none⟩),.pointer (some ⟨b6,0,none⟩),u7,undef,.int .i64 t,v10,.int .i64 t,v12,u13,u14,u15,u16,u17,u18,u19,u20,u21,u22,u23,undef,undef,undef,undef,undef,undef,undef,undef,undef,undef,undef,undef,undef,undef],defers:=marks l }) (g.length+1) ?start ?round
 case start=>exact ⟨0,[],_,_,_,_,_,_,_,_,_,_,_,_,rfl,⟨⟨_,_,rfl,HRI.out⟩,Nat.zero_le _,Nat.le_refl _,MarksW.nil _ _⟩,rfl⟩
 case round =>
  clear HRI;rintro N9 a9 wr ⟨k,l,u7,u13,u14,u15,u16,u17,u18,u19,u20,u21,u22,u23,hNk,HR1,rfl⟩;obtain ⟨⟨S,Q,hit,hRI⟩,hk,hsz,hm⟩:=HR1;cases Q with
  | nil =>
   have hdone:=biter_done ht Hsu.out hit;obtain ⟨v,h6,hT⟩:=hRI.todo;obtain ⟨g9,off9,cap9,cur9,rfl,-⟩:=id hT;have e6:=row_cell h6 (j:=0) rfl;have hb5:=hRI.set.bits;have hb4:BitsB wr b4 0:=hRI.out;have c0:=hb5 0 (by decide);have d0:=row_cell hb4 (j:=0) rfl;have f0:=row_free hb4 0;have c1:=hb5 1 (by decide);have d1:=row_cell hb4 (j:=1) rfl;have f1:=row_free hb4 1;have c2:=hb5 2 (by decide);have d2:=row_cell hb4 (j:=2) rfl;have f2:=row_free hb4 2;have c3:=hb5 3 (by decide);have d3:=row_cell hb4 (j:=3) rfl;have f3:=row_free hb4 3;have c4:=hb5 4 (by decide);have d4:=row_cell hb4 (j:=4) rfl;have f4:=row_free hb4 4;have c5:=hb5 5 (by decide);have d5:=row_cell hb4 (j:=5) rfl;have f5:=row_free hb4 5;have c6:=hb5 6 (by decide);have d6:=row_cell hb4 (j:=6) rfl;have f6:=row_free hb4 6;simp only [Nat.zero_add] at c0 c1 c2 c3 c4 c5 c6;have HRI:=dh hRI;have Hdone:=dh hdone;have Hm:=dh hm;clear hdone h6 hT hm hRI hit hb5 hb4;gi_wp2_with fail;have hg7:=put7_grown wr b4 S;have hz4:BitsB (put7 wr b4 S) b4 S:=put7_bits HRI.out.out;have hmz:=Hm.out.grown hg7 (fun o ho=>by rw [show wr.heap[b4]? = _ from HRI.out.out] at ho; cases ho; rfl);have hez:Ext w (put7 wr b4 S):=HRI.out.ext.grown hg7 HRI.out.ext.size (fun q e=>by cases e; exact HRI.out.lo.1);refine leaves_marks (B:=W1.heap.size) l (put7 wr b4 S) hmz (Nat.le_trans hsz hg7.size) (fun W' hT=>⟨.agg (bitCells S),result_bits (fn:=Tryz.f55) rfl rfl rfl (hT.2 _ _ _ _ hz4),by rw [Hdone.out],Below.trans hez (Below.mono hT.1 hwW1)⟩)
  | cons x q =>
   have hleft:=biter_left ht Hsu.out hit (by simp);have hxn:x<g.length:=hleft.2 x (by simp);have hkn:k+(q.length+1)<=g.length:=by simpa using hleft.1
   obtain ⟨v,h6,hT⟩:=hRI.todo;obtain ⟨v2,hsl,hT2,hob⟩:=slice_tail hT;obtain ⟨g9,off9,cap9,cur9,rfl,k1,k2,k3,k4,k5,k6⟩:=id hT;obtain ⟨g8,off8,cap8,cur8,rfl,-⟩:=id hT2;have e6:=row_cell h6 (j:=0) rfl;have f6:=row_free h6 0;have e0:wr.cell? ⟨g9,off9,none⟩=some (.int .i64 x):=row_cell k2 (by simpa using k6 0 x rfl);have HRI:=dh hRI;have HT2:=dh hT2;have H6:=dh h6;have Hit:=dh hit;have Hm:=dh hm;simp only [List.length_cons] at e6 hsl;obtain ⟨wc,hwc⟩:∃ wc:World,wc=wr.setCell ⟨b6,0,none⟩ (.slice (some ⟨g8,off8,none⟩) q.length cap8):=⟨_,rfl⟩;have hRc:RI w b4 b5 b6 S q wc:=by rw [hwc]; exact HRI.out.setQ Hne.out hT2
   have hmc:MarksW W1.heap.size l wc:=by rw [hwc]; exact hm.grown (grownBy_setB wr b6 0 _) (fun o ho=>by rw [h6] at ho; cases ho; rfl)
   have hsc:W1.heap.size<=wc.heap.size:=by rw [hwc]; simpa [World.setCell] using hsz
   have HRc:=dh hRc;have Hmc:=dh hmc;have Hwc:=dh hwc;clear hit hRI hT hT2 h6 hm hleft k1 k2 k3 k4 k5 k6 hob hRc hmc hwc;gi_wp2_with fail;rw [<- Hwc.out];refine ⟨trivial,callsIn_wide.2 ((steps71 vb x wc).mono ?_)⟩;rintro e W2 ⟨rfl,hW2⟩;have hE2:Ext wc W2:=by rw [hW2]; exact (Ext.alloc _ _).trans (Ext.alloc _ _)
   have hs2:W2.heap.size=wc.heap.size+2:=by rw [hW2]; simp
   have p1:Safe (footR b5 b6) W2 wc.heap.size #[.pointer (some ⟨vb,0,none⟩)] 28:=by
    rw [hW2];exact (Safe.new (footR_ok hN5 hN6) wc hsc _ _ (Or.inl (by decide))).ext (footR_ok hN5 hN6) (by simp; omega) (Ext.alloc _ _)
   have p2:Safe (footR b5 b6) W2 (wc.heap.size+1) #[.int .i64 x] 3:=by
    rw [hW2];have:=Safe.new (footR_ok hN5 hN6) (wc.alloc (.cells #[.pointer (some ⟨vb,0,none⟩)] 28)) (by simp; omega) #[.int .i64 (x:Nat)] 3 (Or.inr (by simp))
    rwa [World.size_alloc] at this
   have hR2:=HRc.out.grow hE2;have HR2:=dh hR2;have HE2:=dh hE2;have P1:=dh p1;have P2:=dh p2;have Hs2:=dh hs2;clear hW2 hE2 hR2 p1 p2 hs2;gi_wp2_with fail;refine wpIn_rangeFunc_ownH (F:=Fence.wide) rfl (by omega) (gf:=106) (lb:=#[.pointer (some ⟨wc.heap.size,0,none⟩),.pointer (some ⟨wc.heap.size+1,0,none⟩)]) rfl trivial enters106'
    (steps106 W1.heap.size vb g C rs _ _ _ _ _ mb mm w W2 Hv.out Hby.out HR2.out.ext hn hr60 x hxn (HR.out x hxn) HRT.out (footR b5 b6) (footR_ok hN5 hN6) (by have:=Hs2.out; omega) _ _ P1.out P2.out _)
    (fun h k=>h.trans k) (fun W l o o' hl h ho hw=>KpF.put (footR_ok hN5 hN6) HR2.out.ext.size W l o o' hl h ho hw) (Below.refl _ _) (fun _=>rfl)
    (fun pre W'=>∃ S' Q',visN pre (S,q)=(S',Q')/\RI w b4 b5 b6 S' Q' W'/\MarksW W1.heap.size l W'/\W2.heap.size<=W'.heap.size)
    (fun cd pre W'=>False)
    ?hI ?hIx ⟨S,q,rfl,HR2.out,?m0,Nat.le_refl _⟩
    (fun y a' W'=>∃ (p:Nat) (u13 u14 u15 u16 u17 u18 u19 u20 u21 u22 u23:Value),W'.heap[p]? = some (.cells #[.int .u8 y.1.rule,.int .i64 y.1.to_,.int .i64 y.1.n] 93 (0,0))/\a'={ tmps:=#[.pointer (some ⟨vb,0,none⟩),.int .i64 t,undef,undef,.pointer (some ⟨b4,0,none⟩),.pointer (some ⟨b5,0,none⟩),.pointer (some ⟨b6,0,none⟩),.int .i64 x,.pointer (some ⟨p,0,none⟩),.int .i64 t,v10,.int .i64 t,v12,u13,u14,u15,u16,u17,u18,u19,u20,u21,u22,u23,.agg #[.int .u8 y.1.rule,.int .i64 y.1.to_,.int .i64 y.1.n],undef,undef,undef,undef,undef,undef,undef,undef,undef,undef,undef,undef,undef],defers:=[] }) ?a1 ?assign ?body ?done ?stop
   case hI =>
    rintro pre A B row ⟨S',Q',i1,i2,i3,i4⟩ hg hr;refine ⟨S',Q',i1,i2.others hg (fun r e=>⟨Nat.le_trans HR2.out.ext.size (hr r e).1,(hr r e).2⟩),⟨i3.nd,fun D hD=>⟨(i3.each D hD).1,(hg.block D (row_lt (i3.each D hD).2) (fun e=>?_)).trans (i3.each D hD).2⟩⟩,Nat.le_trans i4 hg.size⟩;have h1:=(hr D e.symm).1;have h2:=Hmc.out.lt D hD;have h3:=HE2.out.size;omega
   case hIx=>rintro cd pre A B row h; exact h.elim
   case m0=>exact Hmc.out.ext HE2.out
   case a1 =>
    rintro y a' _ A B row ⟨p,u13,u14,u15,u16,u17,u18,u19,u20,u21,u22,u23,hp,ha⟩ hg hr;refine ⟨p,u13,u14,u15,u16,u17,u18,u19,u20,u21,u22,u23,(hg.block p (row_lt hp) (fun e=>?_)).trans hp,ha⟩;obtain ⟨_,o,ho,hoc⟩:=hr p e.symm;rw [hp] at ho;cases ho; cases hoc
   case assign =>
    rintro l9 pre ⟨y,hy⟩ W K ⟨S',Q',i1,i2,i3,i4⟩ hK;simp only [encG,encStp];gi_wp2_with fail;have hlw:w.heap.size<=W.heap.size:=i2.ext.size;refine hK _ _ ((KeepsOthers.alloc _ _).from _) (kpf_ext hN5 hN6 hlw (by have:=Hs2.out; omega) (Ext.alloc _ _)) ⟨S',Q',i1,i2.grow (Ext.alloc _ _),i3.ext (Ext.alloc _ _),by rw [World.size_alloc]; omega⟩ ⟨W.heap.size,_,_,_,_,_,_,_,_,_,_,_,heap_alloc_new _ _,rfl⟩
   case body =>
    rintro l9 pre ⟨y,hy⟩ a' W hl9 ⟨r9,hr9⟩ ⟨S',Q',i1,i2,i3,i4⟩ ⟨p,u13,u14,u15,u16,u17,u18,u19,u20,u21,u22,u23,hp,rfl⟩ hlen;have hyn:y.to_<g.length:=hy.2.1;have hlw:w.heap.size<=W.heap.size:=i2.ext.size;have hW1W:W1.heap.size<=W.heap.size:=by have:=Hs2.out; omega
    have hW2W:=i4;have p1:=row_cell hp (j:=1) rfl;have Hh:=dh (has48 b5 0 S' y.to_ (by omega) W i2.set.bits);have Ha:=dh (add88 b5 0 S' y.to_ (by omega) W i2.set.bits (fun j=>row_free i2.set _));have hsn:=dh (visN_snoc (y:=(⟨y,hy⟩:StpG g.length)) i1);have I1:=dh i1;have I2:=dh i2;have I3:=dh i3;have Hp:=dh hp;have Hr9:=dh hr9;clear i1 i2 i3 i4 hp hr9;cases hb:S'.testBit y.to_
    ·have hcall:=dh ((Hh.out).mono (fun e w9 h=>h));rw [hb] at hcall;gi_wp2_with fail;refine ⟨trivial,CallsIn.inRound l9 (callsIn_wide.2 (hcall.out.mono ?_))⟩;rintro e w9 ⟨rfl,rfl⟩;gi_wp2_with fail;refine ⟨trivial,CallsIn.inRound l9 (callsIn_wide.2 (Ha.out.mono ?_))⟩;rintro e W3 ⟨⟨v31,rfl⟩,hW3⟩;have hR3:=I2.out.add Hne.out (u:=y.to_) (by omega);have hm3:=(I3.out.grown (grownBy_setB w9 b5 (0+y.to_ / 64) (.int .u64 (wordOf S' (y.to_ / 64) ||| 2 ^ (y.to_ % 64):Nat))) (fun o ho=>by rw [show w9.heap[b5]? = _ from I2.out.set] at ho; cases ho; rfl)).ext (Ext.drew _);have hp3:W3.heap[p]? = some (.cells #[.int .u8 y.rule,.int .i64 y.to_,.int .i64 y.n] 93 (0,0)):=by
      rw [hW3];refine ((Ext.drew _).block p (by rw [World.size_setCell]; exact row_lt Hp.out)).trans ((set_row_other (fun e=>?_) _).trans Hp.out);have h5:=I2.out.set;unfold BitsB at h5;rw [<- e,Hp.out] at h5;cases h5
     have hk3:KpF w.heap.size (footR b5 b6) w9 W3:=by
      rw [hW3];refine (kpf_box (Or.inl rfl) (fun cs T p h=>?_) I2.out.lo.2.1 _ _).trans (kpf_ext hN5 hN6 (by rw [World.size_setCell]; exact hlw) (by rw [World.size_setCell]; exact hW1W) (Ext.drew _));rw [show w9.heap[b5]? = _ from I2.out.set] at h; cases h; decide
     have hko3:KeepsOthers w9 W3:=by rw [hW3]; exact (KeepsOthers.setCell _ _ _).trans (KeepsOthers.drew _)
     rw [<- hW3] at hR3 hm3;have hs3:W3.heap.size=w9.heap.size:=by rw [hW3]; simp [World.setCell]
     obtain ⟨v6,h6,hT6⟩:=hR3.todo;have e6:=row_cell h6 (j:=0) rfl;have f6:=row_free h6 0;have p3:=row_cell hp3 (j:=1) rfl;have hlen6:Q'.length<1000000:=by
      have h:=fold_visit_len (pre.map (·.1.to_)) (S,q);rw [show (pre.map (·.1.to_)).foldl visit (S,q)=(S',Q') from I1.out] at h;simp only [List.length_map] at h;omega
     have H6':=dh h6;have HT6:=dh hT6;have HR3:=dh hR3;have Hm3:=dh hm3;have Hk3:=dh hk3;have Hko3:=dh hko3;have Hs3:=dh hs3;clear hW3 h6 hT6 hR3 hm3 hk3 hko3 hp3 hs3;have hw3:w.heap.size<=(W3.alloc (.cells #[.int .i64 (y.to_:Nat)] 3)).heap.size:=by rw [World.size_alloc]; have:=Hs3.out; omega
     have hT7:=HT6.out.ext (Ext.alloc W3 (.cells #[.int .i64 (y.to_:Nat)] 3));have hc7:=row_cell (j:=0) (heap_alloc_new W3 (.cells #[.int .i64 (y.to_:Nat)] 3)) rfl;have h67:=((Ext.alloc W3 (.cells #[.int .i64 (y.to_:Nat)] 3)).block b6 (row_lt H6'.out)).trans H6'.out;have HT7:=dh hT7;have H67:=dh h67;clear hT7 h67;have hafter:∀ v' W',Tail W' w.heap.size v' (Q'++[y.to_])->(∃ g cur,v6.ownBlock=some g/\(W3.alloc (.cells #[.int .i64 (y.to_:Nat)] 3)).heap[g]? = some (.cells cur 3 (0,0))/\(W3.alloc (.cells #[.int .i64 (y.to_:Nat)] 3)).grownBy W' (some g)/\((W3.alloc (.cells #[.int .i64 (y.to_:Nat)] 3)).grownBy W' none\/2<=cur.size)) ->
       W'.cell? ⟨b6,0,none⟩=some v6/\W'.frozen? ⟨b6,0,none⟩=false/\Hid (Tail W' w.heap.size v' (Q'++[y.to_])/\∃ g cur,w.heap.size<=g/\(W3.alloc (.cells #[.int .i64 (y.to_:Nat)] 3)).heap[g]? = some (.cells cur 3 (0,0))/\(W3.alloc (.cells #[.int .i64 (y.to_:Nat)] 3)).grownBy W' (some g)/\((W3.alloc (.cells #[.int .i64 (y.to_:Nat)] 3)).grownBy W' none\/2<=cur.size)):=by
      rintro v' W' q1 ⟨g7,cur7,q2,q3,q4,q5⟩;have h68:=(q4.block b6 (row_lt H67.out) (fun e=>by cases e; rw [H67.out] at q3; cases q3)).trans H67.out;exact ⟨row_cell h68 rfl,row_free h68 0,dh ⟨q1,g7,cur7,HT7.out.own q2,q3,q4,q5⟩⟩
     have Hafter:=dh hafter;clear hafter;gi_wp2_with (gi_at_builtin; refine wpListIn_append_tail (B:=w.heap.size) (v:=v6) (xs:=Q') _ ?z1 (.tmp 32) (.tmp 35) ?z2 ?z3 ?z4 ⟨W3.heap.size,0,none⟩ y.to_ ?z5 ?z6 ?z7 ?z8 ?z9 ?z10 ?z11)
     case z1=>rfl
     case z2=>rfl
     case z3=>rfl
     case z4=>exact HT7.out
     case z5=>rfl
     case z6=>rfl
     case z7=>exact hc7
     case z8=>rfl
     case z9=>exact hlen6
     case z10=>exact hw3
     intro v36 W7 q1;obtain ⟨h68,f68,HA⟩:=Hafter.out v36 W7 q1.out.1 (by obtain ⟨g7,a1,c7,a2⟩:=q1.out.2; exact ⟨g7,c7,a1,a2⟩);clear q1;obtain ⟨hT8,g7,cur7,k1,k2,k3,k4⟩:=HA.out;obtain ⟨gA,offA,capA,curA,rfl,-⟩:=id hT8;have HT8:=dh hT8;have K2:=dh k2;have K3:=dh k3;have K4:=dh k4;clear HA hT8 k2 k3 k4;gi_wp2_with fail;have hT8:=HT8.out;rw [show (Q'++[y.to_]).length=Q'.length+1 by simp] at hT8;have k2:=K2.out;have k3:=K3.out;have k4:=K4.out;have hR8:=HR3.out.grow (Ext.alloc W3 (.cells #[.int .i64 (y.to_:Nat)] 3));have h67:=(k3.block b6 (row_lt H67.out) (fun e=>by cases e; rw [H67.out] at k2; cases k2)).trans H67.out;have hW3s:W1.heap.size<=W3.heap.size:=by have:=Hs3.out; omega
     have hm8:=((Hm3.out.ext (Ext.alloc W3 (.cells #[.int .i64 (y.to_:Nat)] 3))).grown k3 (fun o ho=>by rw [k2] at ho; cases ho; rfl)).grown (grownBy_setB W7 b6 0 (.slice (some ⟨gA,offA,none⟩) (Q'.length+1) capA)) (fun o ho=>by rw [h67] at ho; cases ho; rfl);refine ⟨((Hko3.out.trans (KeepsOthers.alloc _ _)).trans ((KeepsOthers.of_grownBy k3 (fun j o e ho=>by cases e; rw [k2] at ho; cases ho; rfl)).trans (KeepsOthers.setCell _ _ _))).from _,
      ((Hk3.out.trans (kpf_ext hN5 hN6 (by omega) hW3s (Ext.alloc _ _))).trans (kpf_rows k3 hw3 k1 k2 k4)).trans (kpf_box (Or.inr rfl) (fun cs T p h=>by rw [h67] at h; cases h; decide) I2.out.lo.2.2 _ _),
      S' ||| 2 ^ y.to_,Q'++[y.to_],?_,hR8.rows k3 k2 k1 hT8 Hne.out,hm8,?_⟩
     ·rw [hsn]; unfold visit; simp [hb]
     ·rw [World.size_setCell];have:=k3.size;rw [World.size_alloc] at this;have:=Hs3.out;omega
    ·have hcall:=dh ((Hh.out).mono (fun e w9 h=>h));rw [hb] at hcall;gi_wp2_with fail;refine ⟨trivial,CallsIn.inRound l9 (callsIn_wide.2 (hcall.out.mono ?_))⟩;rintro e w9 ⟨rfl,rfl⟩;gi_wp2_with fail;exact ⟨KeepsFrom.refl _ _,KpF.refl _ _ _,S',Q',by rw [hsn]; unfold visit; simp only [hb,if_true],I2.out,I3.out,hW2W⟩
   case done =>
    rintro D xs W' hD hS ⟨S',Q',i1,i2,i3,i4⟩ hK;have hDl:D∉l:=fun hm=>by
     have h2:=Hmc.out.lt D hm;have h3:=HE2.out.size;omega
    have HRn:=dh (show RchRel w W1 b4 b5 b6 g.length (succF g C rs) t (k+1) (D :: l) W' from ⟨⟨S',Q',by
      show bstep (succF g C rs) (biter (succF g C rs) t k)=(S',Q')
      rw [Hit.out];show (succF g C rs x).foldl visit (S,q)=(S',Q')
      rw [<- i1];unfold succF visN;rw [<- hS,List.map_map]
      rfl,i2⟩,by omega,by have:=Hs2.out; omega,i3.cons (by have:=Hs2.out; omega) hDl hK⟩)
    clear i1 i2 i3 hK hDl;gi_wp2_with fail;exact ⟨N9-1,by omega,k+1,D :: l,_,_,_,_,_,_,_,_,_,_,_,_,by omega,HRn.out,rfl⟩
   case stop =>
    rintro D cd pre W' hD hS h;exact h.elim
end
section
open Go.RowKit Go.Proofs Go.Shelf
def StepsRow (W:World) (b n:Nat) (f:Nat->Stp):Prop:=∃ cur,W.heap[b]? = some (.cells cur 93 (0,0))/\∀ p,p<n->cur[p*3]? = some (.int .u8 (f p).rule)/\cur[p*3+1]? = some (.int .i64 (f p).to_)/\cur[p*3+2]? = some (.int .i64 (f p).n)
def revK (f:Nat->Stp) (n k:Nat) (p:Nat):Stp:=if p<k\/n-k<=p then f (n-1-p) else f p
theorem StepsRow.congr {W:World} {b n:Nat} {f g:Nat->Stp} (h:StepsRow W b n f) (hfg:∀ p,p<n->f p=g p):StepsRow W b n g:=by
 obtain ⟨cur,h1,h2⟩:=h;exact ⟨cur,h1,fun p hp=>by rw [<- hfg p hp]; exact h2 p hp⟩
theorem StepsRow.ext {W W':World} {b n:Nat} {f:Nat->Stp} (h:StepsRow W b n f) (hE:Ext W W'):StepsRow W' b n f:=by
 obtain ⟨cur,h1,h2⟩:=h;exact ⟨cur,(hE.block b (row_lt h1)).trans h1,h2⟩
def putStp (W:World) (b p:Nat) (s:Stp):World:=((W.setCell ⟨b,p*3,none⟩ (.int .u8 s.rule)).setCell ⟨b,p*3+1,none⟩ (.int .i64 s.to_)).setCell ⟨b,p*3+2,none⟩ (.int .i64 s.n)
theorem StepsRow.put {W:World} {b n k:Nat} {f:Nat->Stp} (s:Stp) (h:StepsRow W b n f) (hk:k<n):StepsRow (putStp W b k s) b n (fun p=>if p=k then s else f p):=by
 obtain ⟨cur,h1,h2⟩:=h;have a1:=row_set (j:=k*3) (v:=.int .u8 (s.rule:Nat)) h1;have a2:=row_set (j:=k*3+1) (v:=.int .i64 (s.to_:Nat)) a1;have a3:=row_set (j:=k*3+2) (v:=.int .i64 (s.n:Nat)) a2;refine ⟨_,a3,fun p hp=>?_⟩;have hb:∀ q,q<n->q*3+2<cur.size:=fun q hq=>(Array.getElem?_eq_some_iff.1 (h2 q hq).2.2).1;have hbk:=hb k hk;have e:=h2 p hp;by_cases hpk:p=k
 ·subst hpk;simp only [↓reduceIte];refine ⟨?_,?_,?_⟩
  ·rw [Array.getElem?_setIfInBounds_ne (by omega),Array.getElem?_setIfInBounds_ne (by omega),Array.getElem?_setIfInBounds_self_of_lt (by omega)]
  ·rw [Array.getElem?_setIfInBounds_ne (by omega),Array.getElem?_setIfInBounds_self_of_lt (by simp; omega)]
  ·rw [Array.getElem?_setIfInBounds_self_of_lt (by simp; omega)]
 ·simp only [if_neg hpk];refine ⟨?_,?_,?_⟩
  ·rw [Array.getElem?_setIfInBounds_ne (by omega),Array.getElem?_setIfInBounds_ne (by omega),Array.getElem?_setIfInBounds_ne (by omega)]; exact e.1
  ·rw [Array.getElem?_setIfInBounds_ne (by omega),Array.getElem?_setIfInBounds_ne (by omega),Array.getElem?_setIfInBounds_ne (by omega)]; exact e.2.1
  ·rw [Array.getElem?_setIfInBounds_ne (by omega),Array.getElem?_setIfInBounds_ne (by omega),Array.getElem?_setIfInBounds_ne (by omega)]; exact e.2.2
theorem putStp_grown (W:World) (b k:Nat) (s:Stp):W.grownBy (putStp W b k s) (some b):=grownBy_trans (grownBy_trans (grownBy_setB W b _ _) (grownBy_setB _ b _ _)) (grownBy_setB _ b _ _)
theorem rev_step {w wr:World} {b m k J':Nat} {f:Nat->Stp} {sk sJ:Stp} (hkJ:k+(J'+1)=m) (hlt:k<J'+1) (hsk:sk=revK f (m+1) k k) (hsJ:sJ=revK f (m+1) k (J'+1)) (hS:StepsRow wr b (m+1) (revK f (m+1) k)) (hG:w.grownBy wr (some b)) :
  StepsRow (putStp (putStp wr b k sJ) b (J'+1) sk).drew b (m+1) (revK f (m+1) (k+1))/\w.grownBy (putStp (putStp wr b k sJ) b (J'+1) sk).drew (some b):=by
 refine ⟨?_,grownBy_ext (grownBy_trans (grownBy_trans hG (putStp_grown wr b k sJ)) (putStp_grown _ b (J'+1) sk)) (Ext.drew _)⟩;have h3:StepsRow (putStp (putStp wr b k sJ) b (J'+1) sk) b (m+1) (revK f (m+1) (k+1)):=((hS.put (k:=k) sJ (by omega)).put (k:=J'+1) sk (by omega)).congr (fun p hp=>by
  rw [hsk,hsJ];unfold revK;by_cases e1:p=J'+1
  ·rw [if_pos e1,if_neg (by omega),if_pos (by omega),e1]; congr 1; omega
  ·rw [if_neg e1];by_cases e2:p=k
   ·rw [if_pos e2,if_neg (by omega),if_pos (by omega),e2]; congr 1; omega
   ·rw [if_neg e2];by_cases e3:p<k\/m+1-k<=p
    ·rw [if_pos e3,if_pos (by omega)]
    ·rw [if_neg e3,if_neg (by omega)])
 exact h3.ext (Ext.drew _)
def RevPost (w:World) (b n:Nat) (f:Nat->Stp) (e:Ending) (w':World):Prop:=e=.returned (.tuple #[])/\StepsRow w' b n (fun p=>f (n-1-p))/\w.grownBy w' (some b)
theorem reverseNil73 (a:Option Addr) (cap:Nat) (w:World):Calls Tryz.prog 73 #[.slice a 0 cap] w fun e w'=>e=.returned (.tuple #[])/\w'=w:=by
 go_enter Tryz.func73,Tryz.ntmps73
 go_wp2;refine wp_loop_rounds 1 ?_; rw [rounds_succ];go_wp2
 go_end0
 exact ⟨rfl,rfl⟩
theorem reverse73 (b m cap:Nat) (f:Nat->Stp) (w:World) (hn:m+1<=cap) (hs:m<=1000000) (h:StepsRow w b (m+1) f) :
  Calls Tryz.prog 73 #[.slice (some ⟨b,0,none⟩) (m+1) cap] w (RevPost w b (m+1) f):=by
 have H0:=dh h;clear h
 go_enter Tryz.func73,Tryz.ntmps73
 go_upto_region 1 with (fail);go_loopw [2,3] (fun i j wr=>∃ k J:Nat,k+J=m/\k<=J+1/\i=.int .i64 k/\j=.int .i64 J/\Hid (StepsRow wr b (m+1) (revK f (m+1) k)/\w.grownBy wr (some b))) (fun _ j _=>(intOf j).toNat)
 case atStart=>exact ⟨0,m,by omega,by omega,rfl,by go_num,dh ⟨H0.out.congr fun p hp=>by unfold revK; rw [if_neg (by omega)],grownBy_refl _ _⟩⟩
 case round =>
  obtain ⟨k,J,hkJ,hk,rfl,rfl,hH⟩:=hrel;by_cases hlt:k<J
  ·have hS0:=dh hH.out.1;have hG0:=dh hH.out.2;obtain ⟨cur,h1,h2⟩:=hH.out.1;have hw1:IntKind.i64.wrap ((k:Int)+1)=((k+1:Nat):Int):=by rw [IntKind.wrap_i64]; omega
   obtain ⟨J',rfl⟩:∃ J',J=J'+1:=⟨J-1,by omega⟩;obtain ⟨sk,hsk⟩:∃ sk,sk=revK f (m+1) k k:=⟨_,rfl⟩;obtain ⟨sJ,hsJ⟩:∃ sJ,sJ=revK f (m+1) k (J'+1):=⟨_,rfl⟩;have c0:=row_cell h1 (h2 k (by omega)).1;have c1:=row_cell h1 (h2 k (by omega)).2.1;have c2:=row_cell h1 (h2 k (by omega)).2.2;have d0:=row_cell h1 (h2 (J'+1) (by omega)).1;have d1:=row_cell h1 (h2 (J'+1) (by omega)).2.1;have d2:=row_cell h1 (h2 (J'+1) (by omega)).2.2;have f0:=row_free h1 (k*3);have f1:=row_free h1 (k*3+1);have f2:=row_free h1 (k*3+2);have g0:=row_free h1 ((J'+1)*3);have g1:=row_free h1 ((J'+1)*3+1);have g2:=row_free h1 ((J'+1)*3+2);rw [<- hsk] at c0 c1 c2;rw [<- hsJ] at d0 d1 d2;have i1:(k:Int)<(m:Int)+1:=by omega
   have i2:J'<m:=by omega
   have i3:(0:Int)<=(J':Int)+1:=by omega
   have Hsk:=dh hsk;have HsJ:=dh hsJ;clear hsk hsJ h1 h2 hH;go_upto_region 3 with (fail);have HS:=dh (show Ext wr wr.drew from Ext.drew wr);refine wp_region_L [13,15] (Ext wr) (by kernel_rfl) ?_;change wpL _ _ _ _ _ _ _ _ _ (World.drew _);refine Yp 0 HS.out ?_;refine Yp 1 HS.out ?_;refine Yp 2 HS.out ?_;refine Yp 3 HS.out ?_;refine Yp 4 HS.out ?_;refine Yp 5 HS.out ?_;refine Yp 6 HS.out ?_;refine Yt 7 rfl (fun w9 hE=>by have d0E:=hE.cell d0; have d1E:=hE.cell d1; have d2E:=hE.cell d2; clear hE; first | (go_simp; done) | (go_simp; with_reducible rfl)) HS.out ?_;refine Yp 8 HS.out ?_;refine Yp 9 HS.out ?_;refine Yp 10 HS.out ?_;refine Yt 11 rfl (fun w9 hE=>by have c0E:=hE.cell c0; have c1E:=hE.cell c1; have c2E:=hE.cell c2; clear hE; first | (go_simp; done) | (go_simp; with_reducible rfl)) HS.out ?_;refine Yp 12 HS.out ?_;refine wpL_only (i:=13) rfl (by kernel_rfl) (fun K hK=>?_);go_simp;refine hK _ _ (fun h=>Bool.noConfusion ((show early _ _=false by kernel_rfl).symm.trans h)) ?_; clear hK K;refine wpL_only (i:=14) rfl (by kernel_rfl) (fun K hK=>?_);go_simp;refine hK _ _ (fun h=>Bool.noConfusion ((show early _ _=false by kernel_rfl).symm.trans h)) ?_; clear hK K;refine wpL_only (i:=15) rfl (by kernel_rfl) (fun K hK=>?_);go_simp;refine hK _ _ (fun h=>Bool.noConfusion ((show early _ _=false by kernel_rfl).symm.trans h)) ?_; clear hK K;refine wpL_done (by kernel_rfl) ?_;have HN:=dh (rev_step hkJ hlt Hsk.out HsJ.out hS0.out hG0.out);clear c0 c1 c2 d0 d1 d2 f0 f1 f2 g0 g1 g2 HS;go_wp2_with fail;go_roundw
   case rel=>exact ⟨k+1,J',by omega,by omega,by go_num,by go_num,dh HN.out⟩
   case measure=>simp [intOf]
  ·have hG0:=dh hH.out.2;have hS0:=dh (hH.out.1.congr (g:=fun p=>f (m+1-1-p)) fun p hp=>by
    unfold revK;by_cases h:p<k\/m+1-k<=p
    ·rw [if_pos h]
    ·rw [if_neg h]; congr 1; omega)
   clear hH;go_wp2_with fail
   go_end0
   exact ⟨rfl,hS0.out,hG0.out⟩
end
end Go.Proofs.YtjffkeoajkhbmaaGreat
