/- Derive and CheckDerive where they are asked wrongly. sub.circles. -/
import Derived.Test.YtjffkeoajkhbmaaGreatOX12
import Derived.Test.YtjffkeoajkhbmaaGreatOX17
import Derived.Test.YtjffkeoajkhbmaaGreatOX21
namespace Go.Proofs.YtjffkeoajkhbmaaGreat
set_option linter.unusedSimpArgs false
set_option linter.unusedVariables false
set_option maxRecDepth 100000
set_option maxHeartbeats 8000000
section
open Go.RowKit Go.Proofs Go.Shelf
theorem deriveBad38 (vb:Nat) (g:List Ty) (C:Nat->Nat) (rs:List Reveal) (S:List Nat) (gv cv rv av:Value) (w:World) (hv:EnvW w vb g C rs S gv cv rv av)
  (hn:g.length<=400) (a b:Int) (hx:-9223372036854775808<=a/\a<=9223372036854775807) (hy:-9223372036854775808<=b/\b<=9223372036854775807) (h0:askedR g.length [a,b]=1) :
  Calls Tryz.prog 38 #[.pointer (some ⟨vb,0,none⟩),.int .i64 a,.int .i64 b] w fun e w'=>e=.returned (.tuple #[.slice none 0 0,.bool false,.int .i64 1])/\Ext w w':=by
 obtain ⟨ga,gc,rfl,_⟩:=id hv.gr;obtain ⟨w0,hw0⟩:∃ w0:World,w0=w.alloc (.cells #[.int .i64 b] 3):=⟨_,rfl⟩;have hE0:Ext w w0:=by rw [hw0]; exact Ext.alloc _ _
 have hcall:=dh (asked47 vb ga g.length gc hn _ 2 2 [a,b] _ ((hE0.trans (Ext.alloc _ _)).cell hv.c0) (ints_two w0 a b hx hy));rw [h0] at hcall;rw [hw0,World.size_alloc] at hcall;have HE0:=dh (hE0.trans (Ext.alloc w0 (.cells #[.int .i64 a,.int .i64 b] 3)));rw [hw0] at HE0;clear h0 hE0 hw0 hv
 go_enter Tryz.func38,Tryz.ntmps38
 go_wp2_with fail
 go_step3
 go_wp2_with fail;refine hcall.out.mono ?_;rintro e w1 ⟨rfl,hE⟩;have HE:=dh (HE0.out.trans hE); clear hE;go_wp2_with fail;simp only [Exit.noGoto];go_ret3;exact ⟨rfl,HE.out⟩
end
section
open Go.RowKit Go.Proofs
theorem visit122 (bs vb:Nat) (g:List Ty) (C:Nat->Nat) (rs:List Reveal) (S:List Nat) (gv cv rv av:Value) (mb:Nat) (mm:List (BA × Value)) (w0:World) (hv:EnvW w0 vb g C rs S gv cv rv av) (hby:ByAt w0 vb rs mb mm)
  (hn:g.length<=400) (hr60:rs.length<=60) (hr:∀ t,t<g.length->rightB g (nth g t)=true) (hrt:∀ i,i<rs.length->0<=(nth rs i).type/\(nth rs i).type<g.length) (hC:∀ i,i<g.length->C i<g.length)
  (bst bv bvis:Nat):∀ (f:Nat) (st:Nat->Nat) (c:Nat) (W:World),VisW w0 W bst bv bvis bs g.length vb->StW W bs g.length st->zeros g.length st<=f->(∀ j,st j<=2)->c<g.length ->
   Calls Tryz.prog 122 #[.int .i64 c,.pointer (some ⟨bst,0,none⟩),.pointer (some ⟨bv,0,none⟩),.pointer (some ⟨bvis,0,none⟩)] W (VisPost W bs g.length (visitC (succC g C rs) (f+1) st c))
 | 0,st,c,W,hV,hs,hz,h2,hc=>by
  by_cases h0:0<st c
  ·exact visit_met _ 0 w0 bst bv bvis bs g.length vb st c W hV hs (h2 c) hc hn h0
  ·have:=zeros_upd hc (show st c=0 by omega) (v:=1) (by decide);omega
 | f+1,st,c,W,hV,hs,hz,h2,hc=>by
  by_cases h0:0<st c
  ·exact visit_met _ (f+1) w0 bst bv bvis bs g.length vb st c W hV hs (h2 c) hc hn h0
  ·exact visit_new f bs vb g C rs S gv cv rv av mb mm w0 hv hby hn hr60 hr hrt hC bst bv bvis (visit122 bs vb g C rs S gv cv rv av mb mm w0 hv hby hn hr60 hr hrt hC bst bv bvis f) st c W hV hs hz h2 hc (by omega)
theorem circles87 (vb:Nat) (g:List Ty) (C:Nat->Nat) (rs:List Reveal) (S:List Nat) (gv cv rv av:Value) (mb:Nat) (mm:List (BA × Value)) (w:World) (hv:EnvW w vb g C rs S gv cv rv av) (hby:ByAt w vb rs mb mm)
  (hn:g.length<=400) (hr60:rs.length<=60) (hr:∀ t,t<g.length->rightB g (nth g t)=true) (hrt:∀ i,i<rs.length->0<=(nth rs i).type/\(nth rs i).type<g.length) (hC:∀ i,i<g.length->C i<g.length) :
  Calls Tryz.prog 87 #[.pointer (some ⟨vb,0,none⟩)] w fun e w'=>e=.returned (.bool (circB (succC g C rs) g.length C))/\Ext w w':=by
 obtain ⟨ga,gc,rfl,-⟩:=id hv.gr;obtain ⟨ca,cc,rfl,-⟩:=id hv.cl;have hb:=(SlW.bound hv.gr).2;have Hv:=dh hv;have Hvis:=dh (fun bs bst bv bvis=>visit122 bs vb g C rs S _ _ rv av mb mm w hv hby hn hr60 hr hrt hC bst bv bvis);have hcl:((List.range g.length).map fun i=>(C i:Int)).length=g.length:=by simp
 have HC:=dh hC;have c0:=hv.c0;have c1:=hv.c1;rw [hcl] at c1;have hlv:vb<w.heap.size:=cell_lt c0;have hmk:=makeInts g.length (by omega);clear hv hby hr hrt hC
 go_enter Tryz.func87,Tryz.ntmps87
 go_upto_region 4 with (fail);obtain ⟨W4,hW4⟩:∃ W4:World,W4=(((w.alloc (.cells #[.pointer (some ⟨vb,0,none⟩)] 28)).alloc (.cells (madeCells #[.int .i64 0] g.length) 3)).alloc (.cells #[.slice (some ⟨w.heap.size+1,0,none⟩) g.length g.length] 35)).alloc
   (.cells #[.func (.func 122) #[] #[.pointer (some ⟨w.heap.size+1+1,0,none⟩),.pointer (some ⟨w.heap.size,0,none⟩),.pointer (some ⟨w.heap.size+1+1+1,0,none⟩)]] 104):=⟨_,rfl⟩
 rw [<- hW4];have hE4:Ext w W4:=by rw [hW4]; exact (((Ext.alloc _ _).trans (Ext.alloc _ _)).trans (Ext.alloc _ _)).trans (Ext.alloc _ _)
 have p0:W4.heap[w.heap.size]? = some (.cells #[.pointer (some ⟨vb,0,none⟩)] 28 (0,0)):=by
  rw [hW4]; exact (((Ext.alloc _ _).trans (Ext.alloc _ _)).trans (Ext.alloc _ _)).block _ (by simp) |>.trans (heap_alloc_new _ _)
 have p1:StW W4 (w.heap.size+1) g.length (fun _=>0):=by
  rw [hW4];refine StW.ext (W:=(w.alloc (.cells #[.pointer (some ⟨vb,0,none⟩)] 28)).alloc (.cells (madeCells #[.int .i64 0] g.length) 3)) ?_ ((Ext.alloc _ _).trans (Ext.alloc _ _));have:=RowI.make (w.alloc (.cells #[.pointer (some ⟨vb,0,none⟩)] 28)) g.length;rw [World.size_alloc] at this;exact this
 have p2:W4.heap[w.heap.size+1+1]? = some (.cells #[.slice (some ⟨w.heap.size+1,0,none⟩) g.length g.length] 35 (0,0)):=by
  rw [hW4];refine ((Ext.alloc _ _).block _ (by simp)).trans ?_;have:=heap_alloc_new ((w.alloc (.cells #[.pointer (some ⟨vb,0,none⟩)] 28)).alloc (.cells (madeCells #[.int .i64 0] g.length) 3)) (.cells #[.slice (some ⟨w.heap.size+1,0,none⟩) g.length g.length] 35)
  rwa [World.size_alloc,World.size_alloc] at this
 have p3:W4.heap[w.heap.size+1+1+1]? = some (.cells #[.func (.func 122) #[] #[.pointer (some ⟨w.heap.size+1+1,0,none⟩),.pointer (some ⟨w.heap.size,0,none⟩),.pointer (some ⟨w.heap.size+1+1+1,0,none⟩)]] 104 (0,0)):=by
  rw [hW4];have:=heap_alloc_new (((w.alloc (.cells #[.pointer (some ⟨vb,0,none⟩)] 28)).alloc (.cells (madeCells #[.int .i64 0] g.length) 3)).alloc (.cells #[.slice (some ⟨w.heap.size+1,0,none⟩) g.length g.length] 35))
   (.cells #[.func (.func 122) #[] #[.pointer (some ⟨w.heap.size+1+1,0,none⟩),.pointer (some ⟨w.heap.size,0,none⟩),.pointer (some ⟨w.heap.size+1+1+1,0,none⟩)]] 104)
  rwa [World.size_alloc,World.size_alloc,World.size_alloc] at this
 have hV4:VisW w W4 (w.heap.size+1+1) w.heap.size (w.heap.size+1+1+1) (w.heap.size+1) g.length vb:=⟨hE4,by omega,p2,p0,p3,by omega,by omega,by omega⟩;have x1:=row_cell p0 (j:=0) rfl;have x4:=row_cell p3 (j:=0) rfl;have c1:=hE4.cell c1;have HV4:=dh hV4;have HS4:=dh p1;have HE4:=dh hE4;clear hW4 hE4 p0 p1 p2 p3 hV4 c0 hmk;have hsuf:=dh (show ∀ k st W,loopC (visitC (succC g C rs) (g.length+1)) ((List.range k).map C) (fun _=>0)=(false,st)->StW W (w.heap.size+1) g.length st->W4.grownBy W (some (w.heap.size+1))->k<g.length ->
   Calls Tryz.prog 122 #[.int .i64 (C k),.pointer (some ⟨w.heap.size+1+1,0,none⟩),.pointer (some ⟨w.heap.size,0,none⟩),.pointer (some ⟨w.heap.size+1+1+1,0,none⟩)] W (VisPost W (w.heap.size+1) g.length (visitC (succC g C rs) (g.length+1) st (C k))) from fun k st W h1 h2 h3 hk=>by
  have hmn:=loopC_mono (succC g C rs) (g.length+1) ((List.range k).map C) (fun _=>0) (fun _=>by omega);have hz:=zeros_le (n:=g.length) hmn.1;rw [zeros_start] at hz;simp only [h1] at hz hmn;exact Hvis.out _ _ _ _ g.length st (C k) W (HV4.out.kept h3) h2 hz hmn.2 (HC.out k hk))
 refine wp_region_M 99 (w.heap.size+1) (by kernel_rfl) ?_;change wpM _ _ _ _ _ _ _ _ _ (World.drew _);refine wpM_take (i:=0) (v:=?_) rfl (by kernel_rfl) (by kernel_rfl) (by kernel_rfl) (fun _ _ _ h=>h) (Or.inl ⟨by kernel_rfl,fun w9 hE=>?_⟩) ?_;rotate_left
 ·have x1E:=hE.cell x1 (by first | (simp; done) | (simp; omega)); clear hE; first | (go_simp; done) | (go_simp; with_reducible rfl)
 simp only [Act.put,nm];refine wpM_take (i:=1) (v:=?_) rfl (by kernel_rfl) (by kernel_rfl) (by kernel_rfl) (fun _ _ _ h=>h) (Or.inl ⟨by kernel_rfl,fun w9 hE=>?_⟩) ?_;rotate_left
 ·clear hE; first | (go_simp; done) | (go_simp; with_reducible rfl)
 simp only [Act.put,nm];refine wpM_take (i:=2) (v:=?_) rfl (by kernel_rfl) (by kernel_rfl) (by kernel_rfl) (fun _ _ _ h=>h) (Or.inl ⟨by kernel_rfl,fun w9 hE=>?_⟩) ?_;rotate_left
 ·clear hE; first | (go_simp; done) | (go_simp; with_reducible rfl)
 simp only [Act.put,nm];refine wpM_take (i:=3) (v:=?_) rfl (by kernel_rfl) (by kernel_rfl) (by kernel_rfl) (fun _ _ _ h=>h) (Or.inl ⟨by kernel_rfl,fun w9 hE=>?_⟩) ?_;rotate_left
 ·clear hE; first | (go_simp; done) | (go_simp; with_reducible rfl)
 simp only [Act.put,nm];refine wpM_take (i:=4) (v:=?_) rfl (by kernel_rfl) (by kernel_rfl) (by kernel_rfl) (fun _ _ _ h=>h) (Or.inl ⟨by kernel_rfl,fun w9 hE=>?_⟩) ?_;rotate_left
 ·have c1E:=hE.cell c1 (by first | (simp; done) | (simp; omega)); clear hE; first | (go_simp; done) | (go_simp; with_reducible rfl)
 simp only [Act.put,nm];refine wpM_take (i:=5) (v:=?_) rfl (by kernel_rfl) (by kernel_rfl) (by kernel_rfl) (fun _ _ _ h=>h) (Or.inl ⟨by kernel_rfl,fun w9 hE=>?_⟩) ?_;rotate_left
 ·have x4E:=hE.cell x4 (by first | (simp; done) | (simp; omega)); clear hE; first | (go_simp; done) | (go_simp; with_reducible rfl)
 simp only [Act.put,nm];refine wpM_only (i:=6) rfl (by kernel_rfl) (by kernel_rfl) (fun K hK=>?_);go_simp;refine (containsFunc52 122 enters122 #[.pointer (some ⟨w.heap.size+1+1,0,none⟩),.pointer (some ⟨w.heap.size,0,none⟩),.pointer (some ⟨w.heap.size+1+1+1,0,none⟩)] ca g.length cc (by omega) (fun k _=>.int .i64 (C k)) W4.drew
  (fun k W=>∃ st,loopC (visitC (succC g C rs) (g.length+1)) ((List.range k).map C) (fun _=>0)=(false,st)/\StW W (w.heap.size+1) g.length st/\W4.grownBy W (some (w.heap.size+1)))
  (fun k W=>(loopC (visitC (succC g C rs) (g.length+1)) ((List.range (k+1)).map C) (fun _=>0)).1=true/\W4.grownBy W (some (w.heap.size+1)))
  ?_ ?_ ⟨_,rfl,HS4.out.ext (Ext.drew _),grownBy_ext (grownBy_refl _ _) (Ext.drew _)⟩).mono ?_
 ·rintro k W ⟨st,h1,h2,h3⟩ i hi;obtain ⟨cb,coff,hco,_,d1,-⟩:=Ints.at (Ints.mono (HV4.out.kept h3).ext Hv.out.cl) (i:=i) (by rw [hcl]; exact hi);rw [show nth ((List.range g.length).map fun i=>(C i:Int)) i=(C i:Int) by rw [nth_eq (by simpa using hi)]; simp] at d1;exact ⟨cb,coff,hco,d1⟩
 ·rintro k W hk ⟨st,h1,h2,h3⟩;refine (hsuf.out k st W h1 h2 h3 hk).mono ?_;rintro e W' ⟨rfl,h4,h5⟩;have hsn:=loopC_snoc (visitC (succC g C rs) (g.length+1)) ((List.range k).map C) (C k) (fun _=>0) (by rw [h1]);have hr:(List.range (k+1)).map C=(List.range k).map C++[C k]:=by rw [List.range_succ,List.map_append]; rfl
  rw [<- hr,h1] at hsn;cases hv:(visitC (succC g C rs) (g.length+1) st (C k)).1
  ·exact Or.inl ⟨rfl,_,hsn.trans (Prod.ext hv rfl),h4,grownBy_trans h3 h5⟩
  ·exact Or.inr ⟨rfl,by rw [hsn]; exact hv,grownBy_trans h3 h5⟩
 ·have hend:=dh (show ∀ W,W4.grownBy W (some (w.heap.size+1))->Ext w W from fun W h=>HE4.out.grown h HE4.out.size (fun k e=>by cases e; omega));rintro e W' (⟨rfl,st,h1,h2,h3⟩ | ⟨k,hk,rfl,h1,h3⟩)
  ·have Hs:=dh (show circB (succC g C rs) g.length C=false by unfold circB; rw [h1]);have HE:=dh (hend.out _ h3);have h3':W4.drew.grownBy W' (some (w.heap.size+1)):=⟨h3.os,h3.tape,h3.output,h3.size,h3.block⟩;refine hK _ _ h3' ?_; clear hK K h1 h2 h3 h3';refine Zg 7 ?_;refine Zd ?_;go_wp2_with fail;go_ret;exact ⟨by rw [Hs.out]; rfl,HE.out⟩
  ·have Hs:=dh (show circB (succC g C rs) g.length C=true by
    unfold circB;rw [loopC_prefix (us:=(List.range (k+1)).map C) ?_ h1]
    ·exact h1
    ·exact (List.prefix_iff_eq_take.2 (by rw [<- List.map_take,List.take_range,List.length_map,List.length_range,Nat.min_eq_left hk])))
   have HE:=dh (hend.out _ h3);have h3':W4.drew.grownBy W' (some (w.heap.size+1)):=⟨h3.os,h3.tape,h3.output,h3.size,h3.block⟩;refine hK _ _ h3' ?_; clear hK K h1 h3 h3';refine Zg 7 ?_;refine Zd ?_;go_wp2_with fail;go_ret;exact ⟨by rw [Hs.out]; rfl,HE.out⟩
end
end Go.Proofs.YtjffkeoajkhbmaaGreat
