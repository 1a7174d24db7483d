/- Whether a type is as said in itself: the reference's answer. Said: ranges, references, arrays. Said: records, objects, opaque types. Said, whatever the kind. Said of any type. sub.Check, and sub.In: an environment that can be asked. The line of a type: the plain function, and what its walk holds between two calls. -/
import Derived.Test.YtjffkeoajkhbmaaGreatOX3
import Derived.Test.YtjffkeoajkhbmaaGreatOX18
import Derived.Test.YtjffkeoajkhbmaaGreatOX25
import Derived.Test.YtjffkeoajkhbmaaGreatOX26
namespace Go.Proofs.YtjffkeoajkhbmaaGreat
set_option linter.unusedSimpArgs false
set_option linter.unusedVariables false
set_option maxRecDepth 100000
set_option maxHeartbeats 8000000
section
open Go.RowKit Go.Proofs
end
section
open Go.RowKit Go.Proofs
end
section
open Go.RowKit Go.Proofs
end
section
open Go.RowKit Go.Proofs
end
section
open Go.RowKit Go.Proofs
end
section
open Go.RowKit Go.Proofs Go.Shelf
theorem opens {g:List Ty} {rs:List Reveal} (h:openE g rs=0):(checkB g).2=0/\g.length<=400/\rs.length<=60/\(∀ t,t<g.length->rightB g (nth g t)=true)/\∀ k,k<rs.length->badRev g rs k=false:=by
 unfold openE at h;by_cases h0:(checkB g).2=0
 ·rw [if_pos h0] at h;by_cases h6:60<rs.length
  ·rw [if_pos h6] at h; cases h
  ·rw [if_neg h6] at h;by_cases hb:(List.range rs.length).any (badRev g rs)=true
   ·rw [if_pos hb] at h; cases h
   ·obtain ⟨h400,hr⟩:g.length<=400/\∀ i,i<g.length->rightB g (nth g i)=true:=by
     rcases checkB_cases g with ⟨_,h400,hr⟩ | h
     ·exact ⟨h400,hr⟩
     ·rw [h0] at h; cases h
    simp only [List.any_eq_true,List.mem_range,not_exists,not_and,Bool.not_eq_true] at hb;exact ⟨h0,h400,by omega,hr,hb⟩
 ·rw [if_neg h0] at h; cases h
theorem check46 (a:Option Addr) (n c:Nat) (g:List Ty) (ra:Option Addr) (rn rc:Nat) (rs:List Reveal) (w:World) (hg:Graph w (.slice a n c) g) (hre:Reveals w (.slice ra rn rc) rs) :
  Calls Tryz.prog 46 #[.slice a n c,.slice ra rn rc] w fun e w'=>e=.returned (.int .i64 (openE g rs))/\Ext w w':=by
 have Ho:=dh (opened54 a n c g ra rn rc rs w hg hre);clear hg hre
 go_enter Tryz.func46,Tryz.ntmps46
 go_wp2_with fail;refine Ho.out.mono ?_;rintro e w1 (⟨h0,vb,gv,cv,rv,mb,m,rfl,hO⟩ | ⟨h0,rfl,hE⟩)
 ·have HE:=dh hO.ext;have H0:=dh h0;clear hO h0;go_wp2_with fail;go_ret;exact ⟨by rw [H0.out]; rfl,HE.out⟩
 ·have HE:=dh hE;clear hE h0;go_wp2_with fail;go_ret;exact ⟨rfl,HE.out⟩
def reachL (g:List Ty) (rs:List Reveal) (k:Nat):List Nat:=(List.range k).map (reachN (succF g (classesOf g) rs) g.length)
def reachC (g:List Ty) (rs:List Reveal) (k:Nat):List Value:=((List.range k).map fun i=>(bitCells (reachN (succF g (classesOf g) rs) g.length i)).toList).flatten
structure EnvI (w1 W:World) (vb:Nat) (g:List Ty) (rs:List Reveal) (gv cv rv:Value) (mb:Nat) (av:Value) (k:Nat):Prop where
 gr:w1.grownBy W (some vb)
 row:W.heap[vb]? = some (.cells #[gv,cv,rv,.map (some mb),av] 103 (0,0))
 own:W.ownsRow w1.heap.size 97 7 av k (reachC g rs k)
theorem bits_owns {W:World} {base:Nat} {g:List Ty} {rs:List Reveal} {av:Value} {k:Nat} (h:W.ownsRow base 97 7 av k (reachC g rs k)) (hk:k<=400):BitsW W av (reachL g rs k):=by
 have hl:(reachL g rs k).length=k:=by simp [reachL]
 refine slw_of_owns (base:=base) (e:=97) (f:=fun i=>(bitCells (reachN (succF g (classesOf g) rs) g.length i)).toList) (by rw [hl]; exact h) (fun i hi=>⟨?_,by simp [bitCells]⟩) (by rw [hl]; unfold maxBytes; omega);rw [hl] at hi;show _=_
 rw [show nth (reachL g rs k) i=reachN (succF g (classesOf g) rs) g.length i by rw [nth_eq (by rw [hl]; exact hi)]; simp [reachL]];simp [bitCells]
theorem EnvI.env {w w1 W:World} {vb:Nat} {g:List Ty} {rs:List Reveal} {gv cv rv:Value} {mb:Nat} {m:List (BA × Value)} {av:Value} {k:Nat} (hO:EnvO w w1 vb g rs gv cv rv mb m) (h:EnvI w1 W vb g rs gv cv rv mb av k) (hk:k<=400) :
  EnvW W vb g (classesOf g) rs (reachL g rs k) gv cv rv av/\ByAt W vb rs mb m/\Ext w W:=by
 have hf:∀ B:Nat,∀ j,some vb=some j->fromB1 B vb j=false:=fun B j e=>by cases e; simp [fromB1]
 have le1:CellLe (only w1 (fromB1 w.heap.size vb)) W:=(only_grown h.gr (hf _)).trans (only_le _ _);refine ⟨⟨row_cell h.row rfl,row_cell h.row rfl,row_cell h.row rfl,row_cell h.row rfl,Graph.le le1 hO.gr,Ints.le le1 hO.cl,Reveals.le le1 hO.re,bits_owns h.own hk⟩,⟨row_cell h.row rfl,hO.at_.same (h.gr.block mb hO.at_.lt (fun e=>hO.mne (Option.some.inj e))),fun name=>Ints.le le1 (hO.rows name)⟩,?_⟩;exact hO.ext.grown h.gr hO.ext.size (fun q e=>by cases e; exact hO.base)
theorem EnvI.grow {w1 W W':World} {vb:Nat} {g:List Ty} {rs:List Reveal} {gv cv rv:Value} {mb:Nat} {av:Value} {k:Nat} (h:EnvI w1 W vb g rs gv cv rv mb av k) (hE:Ext W W'):EnvI w1 W' vb g rs gv cv rv mb av k :=
 ⟨grownBy_ext h.gr hE,(hE.block vb (row_lt h.row)).trans h.row,owns_ext h.own hE⟩
theorem EnvI.push {w1 W W':World} {vb:Nat} {g:List Ty} {rs:List Reveal} {gv cv rv:Value} {mb:Nat} {av av':Value} {k:Nat} (h:EnvI w1 W vb g rs gv cv rv mb av k) (hvb:vb<w1.heap.size)
  (hg:W.grownBy W' av.ownBlock) (hown:W'.ownsRow w1.heap.size 97 7 av' (k+1) (reachC g rs k++(bitCells (reachN (succF g (classesOf g) rs) g.length k)).toList)):EnvI w1 (W'.setCell ⟨vb,4,none⟩ av') vb g rs gv cv rv mb av' (k+1):=by
 have hne:∀ b,av.ownBlock=some b->w1.heap.size<=b:=fun b hb=>(h.own.lt b hb).1;have hrow:W'.heap[vb]? = some (.cells #[gv,cv,rv,.map (some mb),av] 103 (0,0)):=(hg.block vb (row_lt h.row) (fun e=>by have:=hne vb e.symm; omega)).trans h.row;have hc:reachC g rs (k+1)=reachC g rs k++(bitCells (reachN (succF g (classesOf g) rs) g.length k)).toList:=by
  unfold reachC;rw [List.range_succ,List.map_append,List.flatten_append];simp
 refine ⟨grownBy_trans (grownBy_new h.gr hg (fun r e=>hne r e)) (grownBy_setB W' vb 4 av'),?_,?_⟩
 ·have:=row_set (j:=4) (v:=av') hrow
  simpa using this
 ·rw [hc];exact hown.kept (grownBy_setB W' vb 4 av') (Or.inr fun e=>by have:=(hown.lt vb e).1; omega)
theorem info97:(Tryz.prog.info? 97).map (fun i=>(i.zero,i.size,i.bytes))=some (some (.agg (bitCells 0)),7,56):=by kernel_rfl
theorem under101:Tryz.prog.underlying 101=some (.slice 97):=by kernel_rfl
def InPost (w:World) (g:List Ty) (rs:List Reveal) (e:Ending) (w':World):Prop :=
 (openE g rs=0/\∃ vb gv cv rv mb m w1 av,e=.returned (.tuple #[.pointer (some ⟨vb,0,none⟩),.int .i64 0])/\EnvO w w1 vb g rs gv cv rv mb m/\EnvI w1 w' vb g rs gv cv rv mb av g.length) \/
 (openE g rs≠0/\e=.returned (.tuple #[.pointer none,.int .i64 (openE g rs)])/\Ext w w')
theorem in24 (a:Option Addr) (n c:Nat) (g:List Ty) (ra:Option Addr) (rn rc:Nat) (rs:List Reveal) (w:World) (hg:Graph w (.slice a n c) g) (hre:Reveals w (.slice ra rn rc) rs) :
  Calls Tryz.prog 24 #[.slice a n c,.slice ra rn rc] w (InPost w g rs):=by
 obtain ⟨i0,hi,hz0,hz1,hz2⟩:=info_parts info97;have Ho:=dh (opened54 a n c g ra rn rc rs w hg hre);obtain rfl:=SlW.len hg;clear hg hre
 go_enter Tryz.func24,Tryz.ntmps24
 go_wp2_with fail;refine Ho.out.mono ?_;rintro e w1 (⟨h0,vb,gv,cv,rv,mb,m,rfl,hO⟩ | ⟨h0,rfl,hE⟩);rotate_left
 ·have HE:=dh hE;have H0:=dh h0;have hn:(openE g rs != 0)=true:=by simp [h0]
  have he:((openE g rs:Int) != 0)=true:=hn;clear hE h0;go_wp2_with fail;go_ret2;exact Or.inr ⟨H0.out,rfl,HE.out⟩
 obtain ⟨hch,h400,h60,hr,hbad⟩:=opens h0;have hvb:vb<w1.heap.size:=row_lt hO.row;have H0:=dh h0;have HO:=dh hO;have Hr:=dh hr;have Hb:=dh hbad;have HI:=dh (show EnvI w1 w1 vb g rs gv cv rv mb (.slice none 0 0) 0 from ⟨grownBy_refl _ _,hO.row,World.ownsRow_nil _ _ _ _⟩);clear h0 hO hr hbad hch Ho;go_upto_region 5 with (fail);go_loopw [8,20] (fun _ i wr=>∃ k:Nat,k<=g.length/\i=.int .i64 k/\Hid (∃ av,EnvI w1 wr vb g rs gv cv rv mb av k)) (fun _ i _=>g.length-(intOf i).toNat)
 case atStart=>exact ⟨0,Nat.zero_le _,rfl,dh ⟨_,HI.out⟩⟩
 case round =>
  clear HI;obtain ⟨k,hk,rfl,hH⟩:=hrel;obtain ⟨av,hI⟩:=hH.out;clear hH;by_cases hlt:k<g.length
  ·have hw1:IntKind.i64.wrap ((k:Int)+1)=((k+1:Nat):Int):=by rw [IntKind.wrap_i64]; omega
   have hS:wr.cell? ⟨vb,4,none⟩=some av:=row_cell hI.row rfl;have HI:=dh (hI.grow (Ext.drew wr));obtain ⟨hv,hby,hE⟩:=(hI.grow (Ext.drew wr)).env HO.out (by omega);have Hcall:=dh (reach55 vb g (classesOf g) rs _ gv cv rv av mb m wr.drew hv hby h400 h60 Hr.out (fun i hi=>rev_in (Hb.out i hi)) k hlt);clear hv hby hE hI;go_upto_region 7 with (fail);have HS:=dh (show wr.drew.cell? ⟨vb,4,none⟩=some av from (Ext.drew wr).cell hS);clear hS;refine wp_region_L [12] (fun u=>u.cell? ⟨vb,4,none⟩=some av) (by kernel_rfl) ?_;change wpL _ _ _ _ _ _ _ _ _ (World.drew _);refine Yp 0 HS.out ?_;refine Yp 1 HS.out ?_;refine Yp 2 HS.out ?_;refine Yp 3 HS.out ?_;refine Yt 4 rfl (fun w9 hE=>by have c49:=hE; clear hE; first | (go_simp; done) | (go_simp; with_reducible rfl)) HS.out ?_;refine Yp 5 HS.out ?_;refine Yp 6 HS.out ?_;refine wpL_only (i:=7) rfl (by kernel_rfl) (fun K hK=>?_);go_simp;refine Hcall.out.mono ?_;rintro e W1 ⟨rfl,hE1⟩;have HI1:=dh (HI.out.grow hE1);have HS:=dh (hE1.cell HS.out);clear hE1;refine hK _ _ (fun _=>HS.out) ?_; clear hK K;obtain ⟨R,hR⟩:∃ R,R=reachN (succF g (classesOf g) rs) g.length k:=⟨_,rfl⟩;have hbc:bitCells R=#[.int .u64 (wordOf R 0:Nat),.int .u64 (wordOf R 1:Nat),.int .u64 (wordOf R 2:Nat),.int .u64 (wordOf R 3:Nat),.int .u64 (wordOf R 4:Nat),.int .u64 (wordOf R 5:Nat),.int .u64 (wordOf R 6:Nat)]:=rfl;rw [<- hR,hbc];have HR:=dh hR;have HB:=dh hbc;clear hR hbc;refine wpL_only (i:=8) rfl (by kernel_rfl) (fun K hK=>?_);go_simp;rw [<- HB.out];have HS:=dh ((Ext.alloc W1 (.cells (bitCells R) 97)).cell HS.out);refine hK _ _ (fun _=>HS.out) ?_; clear hK K;have hnew:(W1.alloc (.cells (bitCells R) 97)).heap[W1.heap.size]? = some (.cells (bitCells R) 97 (0,0)):=heap_alloc_new _ _;have hI1:=HI1.out;have hown1:=hI1.own.alloc (.cells (bitCells R) 97);have hgs:=hI1.gr.size;refine wpL_only (i:=9) rfl (by kernel_rfl) (fun K hK=>?_);rw [if_pos (by kernel_rfl)];refine wp_append_own_at (.tmp 27) (.tmp 31) 101 rfl w1.heap.size 97 i0 (.agg (bitCells 0)) 7 56 under101 hi hz0 hz1 hz2 rfl (by decide) av _ _ rfl hown1 ⟨W1.heap.size,0,none⟩ 1 1 (bitCells R).toList rfl (by simp [bitCells]) (fun j u hj=>?c1) (fun u hu=>?c2) (by unfold maxLen; omega) (by omega) (by rw [World.size_alloc]; omega) ?_
   case c1 =>
    rw [Addr.add_lit,Nat.zero_add];exact row_cell hnew (by simpa using hj)
   case c2 =>
    simp [bitCells] at hu;obtain ⟨j,_,rfl⟩:=hu
    rfl
   intro av' W9 hown9 hgrow9 hat9;have hI8:EnvI w1 (W1.alloc (.cells (bitCells R) 97)) vb g rs gv cv rv mb av k:=hI1.grow (Ext.alloc _ _);have HI9:=dh (hI8.push hvb hgrow9 (by rw [<- HR.out]; exact hown9));have hne:∀ b,av.ownBlock=some b->w1.heap.size<=b:=fun b hb=>(hI1.own.lt b hb).1;have hrow9:W9.heap[vb]? = some (.cells #[gv,cv,rv,.map (some mb),av] 103 (0,0)):=(hgrow9.block vb (row_lt hI8.row) (fun e=>by have:=hne vb e.symm; omega)).trans hI8.row;have c49:=row_cell (j:=4) hrow9 rfl;have f49:=row_free hrow9 4;obtain ⟨aa,ca,rfl⟩:=owns_slice hown9;have HS:=dh c49;refine hK _ _ (fun _=>c49) ?_; clear hK K;clear hown9 hgrow9 hat9 hI8 hne hrow9 hI1 hown1 hnew hgs;simp only [Act.put,nm];refine Yp 10 HS.out ?_;refine Yp 11 HS.out ?_;refine wpL_only (i:=12) rfl (by kernel_rfl) (fun K hK=>?_);go_simp;refine hK _ _ (fun h=>Bool.noConfusion ((show early _ _=false by kernel_rfl).symm.trans h)) ?_; clear hK K;refine wpL_done (by kernel_rfl) ?_;clear c49 f49;go_wp2_with fail;go_roundw
   case rel =>
    exact ⟨k+1,by omega,by go_num,dh ⟨_,HI9.out⟩⟩
   case measure=>simp [intOf]; omega
  ·have hkn:k=g.length:=by omega
   subst hkn;have HI:=dh hI;clear hI;go_wp2_with fail;go_ret2;exact Or.inl ⟨H0.out,vb,gv,cv,rv,mb,m,w1,av,rfl,HO.out,HI.out⟩
end
section
open Go.RowKit Go.Proofs Go.Shelf
def fullAt (rs:List Reveal) (L:List Nat):Option Nat:=(List.range L.length).find? fun k=>(nth rs (nth L k)).full
def lineR (rs:List Reveal) (L:List Nat):List Nat:=match fullAt rs L with | some k=>[(nth rs (nth L k)).type.toNat] | none=>L.map fun i=>(nth rs i).type.toNat
def supL9 (g:List Ty) (t:Nat):List Nat:=if hasSuperB (nth g t).kind then [(nth g t).super.toNat] else []
def lineS (g:List Ty) (rs:List Reveal) (t:Nat):List Nat :=
 if (nth g t).kind=13 then (match fullAt rs (byN rs rs.length (nth g t).opq) with | some k=>[(nth rs (nth (byN rs rs.length (nth g t).opq) k)).type.toNat] | none=>((byN rs rs.length (nth g t).opq).map fun i=>(nth rs i).type.toNat)++supL9 g t) else supL9 g t
def lineV (S:Nat->List Nat):Nat->List Nat->Nat->List Nat
 | 0,out,_=>out
 | f+1,out,t=>if t∈out then out else (S t).foldl (lineV S f) (out++[t])
def lineL (g:List Ty) (rs:List Reveal) (t:Nat):List Nat:=lineV (lineS g rs) (g.length+1) [] t
structure OutOk (n:Nat) (out:List Nat):Prop where
 nd:out.Nodup
 lt:∀ x,x∈out->x<n
theorem OutOk.le {n:Nat} {out:List Nat} (h:OutOk n out):out.length<=n:=nodup_le h.nd h.lt
theorem OutOk.snoc {n:Nat} {out:List Nat} (h:OutOk n out) {t:Nat} (ht:t<n) (hm:t∉out):OutOk n (out++[t]) :=
 ⟨List.nodup_append.2 ⟨h.nd,by simp,fun a ha b hb=>by simp at hb; subst hb; exact fun e=>hm (e ▸ ha)⟩,fun x hx=>by
  rcases List.mem_append.1 hx with hx | hx
  ·exact h.lt x hx
  ·simp at hx; omega⟩
theorem fold_keeps {n:Nat} {v:List Nat->Nat->List Nat} (hv:∀ out t,OutOk n out->t<n->OutOk n (v out t)/\out.length<=(v out t).length):∀ (us:List Nat) (out:List Nat),OutOk n out->(∀ u,u∈us->u<n)->OutOk n (us.foldl v out)/\out.length<=(us.foldl v out).length
 | [],out,h,_=>⟨h,Nat.le_refl _⟩
 | u :: us,out,h,hu=>by
  have h1:=hv out u h (hu u (by simp));have h2:=fold_keeps hv us (v out u) h1.1 (fun x hx=>hu x (List.mem_cons_of_mem _ hx));exact ⟨h2.1,Nat.le_trans h1.2 h2.2⟩
theorem lineV_keeps {n:Nat} {S:Nat->List Nat} (hS:∀ t,t<n->∀ u,u∈S t->u<n):∀ (f:Nat) (out:List Nat) (t:Nat),OutOk n out->t<n->OutOk n (lineV S f out t)/\out.length<=(lineV S f out t).length
 | 0,out,t,h,_=>⟨h,Nat.le_refl _⟩
 | f+1,out,t,h,ht=>by
  unfold lineV;by_cases hm:t∈out
  ·rw [if_pos hm]; exact ⟨h,Nat.le_refl _⟩
  ·rw [if_neg hm];have:=fold_keeps (fun o u=>lineV_keeps hS f o u) (S t) (out++[t]) (h.snoc ht hm) (hS t ht);refine ⟨this.1,?_⟩;have h2:=this.2;simp only [List.length_append,List.length_singleton] at h2;omega
theorem lineR_lt {g:List Ty} {rs:List Reveal} {L:List Nat} (hL:∀ i,i∈L->i<rs.length) (hrt:∀ i,i<rs.length->0<=(nth rs i).type/\(nth rs i).type<g.length):∀ u,u∈lineR rs L->u<g.length:=by
 intro u hu;unfold lineR at hu;cases h:fullAt rs L with
 | some k =>
  rw [h] at hu;simp at hu;have hk:=List.mem_range.1 (List.mem_of_find?_eq_some h);have:=hrt _ (hL _ (nth_mem hk));omega
 | none =>
  rw [h] at hu;obtain ⟨i,hi,rfl⟩:=List.mem_map.1 hu;have:=hrt _ (hL _ hi);show (nth rs i).type.toNat<g.length
  omega
structure LinW (w0 W:World) (b1 b2 b3 vb:Nat) (out:List Nat):Prop where
 ext:Ext w0 W
 env:W.heap[b2]? = some (.cells #[.pointer (some ⟨vb,0,none⟩)] 28 (0,0))
 fn:W.heap[b3]? = some (.cells #[.func (.func 94) #[] #[.pointer (some ⟨b1,0,none⟩),.pointer (some ⟨b2,0,none⟩),.pointer (some ⟨b3,0,none⟩)]] 145 (0,0))
 out:∃ v,W.heap[b1]? = some (.cells #[v] 35 (0,0))/\W.ownsRow (max (max b1 b2) b3+1) 3 1 v out.length ((out.map fun (x:Nat)=>(x:Int)).map (Value.int .i64))
 lo:w0.heap.size<=b1/\w0.heap.size<=b2/\w0.heap.size<=b3
 ne:b1≠b2/\b1≠b3
theorem LinW.grow {w0 W W':World} {b1 b2 b3 vb:Nat} {out:List Nat} (h:LinW w0 W b1 b2 b3 vb out) (hE:Ext W W'):LinW w0 W' b1 b2 b3 vb out:=by
 obtain ⟨v,h1,h2⟩:=h.out;exact ⟨h.ext.trans hE,(hE.block b2 (row_lt h.env)).trans h.env,(hE.block b3 (row_lt h.fn)).trans h.fn,⟨v,(hE.block b1 (row_lt h1)).trans h1,owns_ext h2 hE⟩,h.lo,h.ne⟩
theorem LinW.push {w0 W W':World} {b1 b2 b3 vb:Nat} {out:List Nat} {t:Nat} {v v':Value} (h:LinW w0 W b1 b2 b3 vb out) (h1:W.heap[b1]? = some (.cells #[v] 35 (0,0))) (hv:W.ownsRow (max (max b1 b2) b3+1) 3 1 v out.length ((out.map fun (x:Nat)=>(x:Int)).map (Value.int .i64)))
  (hg:W.grownBy W' v.ownBlock) (hown:W'.ownsRow (max (max b1 b2) b3+1) 3 1 v' (out.length+1) ((out.map fun (x:Nat)=>(x:Int)).map (Value.int .i64)++[.int .i64 (t:Nat)])) :
  LinW w0 (W'.setCell ⟨b1,0,none⟩ v') b1 b2 b3 vb (out++[t])/\W'.heap[b1]? = some (.cells #[v] 35 (0,0)):=by
 have hlo:=h.lo;have hne:∀ b,v.ownBlock=some b->max (max b1 b2) b3+1<=b:=fun b hb=>(hv.lt b hb).1;have k1:W'.heap[b1]? = some (.cells #[v] 35 (0,0)):=(hg.block b1 (row_lt h1) (fun e=>by have:=hne b1 e.symm; omega)).trans h1;have k2:=(hg.block b2 (row_lt h.env) (fun e=>by have:=hne b2 e.symm; omega)).trans h.env;have k3:=(hg.block b3 (row_lt h.fn) (fun e=>by have:=hne b3 e.symm; omega)).trans h.fn;have hx:Ext w0 W':=h.ext.grown hg h.ext.size (fun q e=>by have:=hne q e; omega);refine ⟨⟨hx.grown (grownBy_setB W' b1 0 v') hx.size (fun q e=>by cases e; exact hlo.1),(set_row_other h.ne.1.symm _).trans k2,(set_row_other h.ne.2.symm _).trans k3,⟨v',set_row_self k1 _,?_⟩,hlo,h.ne⟩,k1⟩;have:=hown.kept (grownBy_setB W' b1 0 v') (Or.inr fun e=>by have:=(hown.lt b1 e).1; omega)
 simpa using this
theorem line96 (i:Nat) (b2 vb:Nat) (w0 W:World) (g:List Ty) (C:Nat->Nat) (rs:List Reveal) (S:List Nat) (gv cv rv av:Value) (hv:EnvW w0 vb g C rs S gv cv rv av) (hE:Ext w0 W) (h60:rs.length<=60) (hi:i<rs.length) (hb2:W.heap[b2]? = some (.cells #[.pointer (some ⟨vb,0,none⟩)] 28 (0,0))) :
  Calls Tryz.prog 96 #[.int .i64 i,.pointer (some ⟨b2,0,none⟩)] W fun e w'=>e=.returned (.bool (nth rs i).full)/\Ext W w':=by
 obtain ⟨ra,rc,rfl,-⟩:=id hv.re;have c2:=hE.cell hv.c2;have x2:=row_cell hb2 (j:=0) rfl;obtain ⟨b,off,rfl,hlt,d0,d1,d2,-⟩:=Reveals.at (Reveals.mono hE hv.re) hi;clear hv hb2 hE
 go_enter Tryz.func96,Tryz.ntmps96
 go_wp2
 all_goals go_ret
 all_goals exact ⟨rfl,by (repeat (first | exact Ext.refl _ | (refine Ext.trans ?_ (Hid.out (by assumption))) | (refine Ext.trans ?_ (Ext.alloc _ _)) | (refine Ext.trans ?_ (Ext.drew _)) | (refine below_drewN ?_ _)))⟩
theorem enters96:Enters Tryz.prog 96:=enters_of Tryz.func96 (by kernel_rfl) rfl
end
end Go.Proofs.YtjffkeoajkhbmaaGreat
