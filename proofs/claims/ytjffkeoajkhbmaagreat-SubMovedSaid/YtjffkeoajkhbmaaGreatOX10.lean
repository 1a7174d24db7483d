/- types.opened, Classes, Equal, Word. slices.Clone at its types. Sets of types as bits. -/
import Derived.Test.YtjffkeoajkhbmaaGreatOX8
import Derived.Test.YtjffkeoajkhbmaaGreatOX9
namespace Go.Proofs.YtjffkeoajkhbmaaGreat
set_option linter.unusedSimpArgs false
set_option linter.unusedVariables false
set_option maxRecDepth 100000
set_option maxHeartbeats 8000000
section
open Go.RowKit Go.Proofs
theorem opened98 (bg:Nat) (a:Option Addr) (n c:Nat) (hn:n*8<=140737488351232) (i:Int) (w:World) (hg:w.cell? ⟨bg,0,none⟩=some (.slice a n c)) :
  Calls Tryz.prog 98 #[.int .i64 i,.pointer (some ⟨bg,0,none⟩)] w fun e w'=>e=.returned (.bool (!hasI n i))/\Ext w w':=by
 go_enter Tryz.func98,Tryz.ntmps98
 go_wp2_with (go_at_call 99; refine (has99 a n c hn i _).mono ?_; rintro e wN ⟨rfl,hE⟩; have HE:=dh hE; clear hE);go_ret;exact ⟨rfl,by (repeat (first | exact Ext.refl _ | (refine Ext.trans ?_ (Hid.out (by assumption))) | (refine Ext.trans ?_ (Ext.alloc _ _)) | (refine Ext.trans ?_ (Ext.drew _)) | (refine below_drewN ?_ _)))⟩
def openedE (g:List Ty) (at_:List Int):Int:=if (checkB g).2=0 then (if at_.any fun i=>!hasI g.length i then 1 else 0) else 30
theorem checkB_cases (g:List Ty):((checkB g).2=0/\g.length<=400/\∀ i,i<g.length->rightB g (nth g i)=true)\/(checkB g).2=30:=by
 unfold checkB;split
 ·exact Or.inr rfl
 ·rename_i h4
  cases h:(List.range g.length).find? fun i=>!rightB g (nth g i) with
  | some i=>exact Or.inr rfl
  | none =>
   dsimp only;cases h2:(List.range g.length).find? fun i=>ringB g i g.length i with
   | some i=>exact Or.inr rfl
   | none =>
    refine Or.inl ⟨rfl,by omega,fun i hi=>?_⟩;rw [List.find?_eq_none] at h;have:=h i (List.mem_range.2 hi)
    simpa using this
theorem enters98:Enters Tryz.prog 98:=enters_of Tryz.func98 (by kernel_rfl) rfl
theorem opened63 (a:Option Addr) (n c:Nat) (g:List Ty) (b:Option Addr) (m d:Nat) (at_:List Int) (w:World) (hg:Graph w (.slice a n c) g) (hat:Ints w (.slice b m d) at_) :
  Calls Tryz.prog 63 #[.slice a n c,.slice b m d] w fun e w'=>e=.returned (.tuple #[.agg #[.slice a n c],.int .i64 (openedE g at_)])/\Ext w w':=by
 have hb:=(SlW.bound hg).2;obtain rfl:=SlW.len hg;have hb2:=(SlW.bound hat).2;obtain rfl:=SlW.len hat;have Hg:=dh hg; clear hg;have Hat:=dh hat; clear hat
 go_enter Tryz.func63,Tryz.ntmps63
 go_wp2_with fail;refine (check41 a _ c g _ (Graph.mono ((Ext.alloc _ _).trans (Ext.alloc _ _)) Hg.out)).mono ?_;rintro e w1 ⟨rfl,hE⟩;have c4:=hE.cell ((Ext.alloc (w.alloc (.cells #[.slice none 0 0] 118)) (.cells #[.slice a g.length c] 118)).cell (cell_new1 w (.slice none 0 0) 118));have f4:w1.frozen? ⟨w.heap.size,0,none⟩=false:=by
  have h:=frozen_new w #[.slice none 0 0] 118 0;have h2:=(Below.frozen (Ext.alloc (w.alloc (.cells #[.slice none 0 0] 118)) (.cells #[.slice a g.length c] 118)) (p:=⟨w.heap.size,0,none⟩) (by simp)).trans h;exact (Below.frozen hE (p:=⟨w.heap.size,0,none⟩) (by simp; omega)).trans h2
 have c6:=hE.cell (cell_new1 (w.alloc (.cells #[.slice none 0 0] 118)) (.slice a g.length c) 118);rw [World.size_alloc] at c6;have hl4:w.heap.size<w1.heap.size:=cell_lt c4;have HE:=dh (((Ext.alloc _ _).trans (Ext.alloc _ _)).trans hE); clear hE;rcases checkB_cases g with ⟨h0,h400,hr⟩ | h0
 ·clear hr h400;have hcall:=dh (show ∀ w2,Ext w1 w2->Calls Tryz.prog 52 #[.slice b at_.length d,.func (.func 98) #[] #[.pointer (some ⟨w.heap.size+1,0,none⟩)]] w2 fun e w3=>e=.returned (.bool ((List.range at_.length).any fun k=>!hasI g.length (nth at_ k)))/\Ext w2 w3 from fun w2 hE2 =>
   containsFunc52_p 98 enters98 #[.pointer (some ⟨w.heap.size+1,0,none⟩)] b _ d (by omega) (fun k _=>.int .i64 (nth at_ k)) w2 (fun k=>!hasI g.length (nth at_ k))
    (fun w3 hE3 i hi=>by obtain ⟨b',off,ha,_,hc,_⟩:=Ints.at (Ints.mono (HE.out.trans (hE2.trans hE3)) Hat.out) hi; exact ⟨b',off,ha,hc⟩)
    (fun k w3 hk hE3=>opened98 _ a _ c (by omega) _ w3 ((hE2.trans hE3).cell c6)))
  rw [h0];have H0:=dh h0; clear h0;go_wp2_with fail;refine (hcall.out _ (Ext.refl _)).mono ?_;rintro e w2 ⟨rfl,hE⟩;have c4:=hE.cell c4;have c6:=hE.cell c6;have f4:=(Below.frozen hE (p:=⟨w.heap.size,0,none⟩) hl4).trans f4;have HE2:=dh (HE.out.trans hE); clear hE hl4;have hany:=any_range at_ (fun i=>!hasI g.length i)
  cases hv:(List.range at_.length).any fun k=>!hasI g.length (nth at_ k)
  ·rw [hv] at hany;have Hs:=dh (show openedE g at_=0 by unfold openedE; rw [if_pos H0.out,<- hany]; rfl);clear hv hany;have hl5:w.heap.size+1<w2.heap.size:=cell_lt c6;go_wp2_with fail;refine bodyPost_ret (v:=.tuple #[.agg #[.slice a g.length c],.int .i64 0]) (by simp [results,Tryz.results63,go_sem,World.cell?_setCell_same' _ _ _ (show (World.cell? _ ⟨w.heap.size,0,none⟩).isSome=true by rw [c4]; rfl)]) rfl ⟨by rw [Hs.out],Below.setCell HE2.out (Nat.le_refl _) _⟩
  ·rw [hv] at hany;have Hs:=dh (show openedE g at_=1 by unfold openedE; rw [if_pos H0.out,<- hany]; rfl);clear hv hany;have hl5:w.heap.size+1<w2.heap.size:=cell_lt c6;go_wp2_with fail;refine bodyPost_ret (v:=.tuple #[.agg #[.slice a g.length c],.int .i64 1]) (by simp [results,Tryz.results63,go_sem,World.cell?_setCell_same' _ _ _ (show (World.cell? _ ⟨w.heap.size,0,none⟩).isSome=true by rw [c4]; rfl)]) rfl ⟨by rw [Hs.out],Below.setCell HE2.out (Nat.le_refl _) _⟩
 ·have Hs:=dh (show openedE g at_=30 by unfold openedE; rw [if_neg (by rw [h0]; decide)]);rw [h0];have hl5:w.heap.size+1<w1.heap.size:=cell_lt c6;clear h0;go_wp2_with fail;refine bodyPost_ret (v:=.tuple #[.agg #[.slice a g.length c],.int .i64 30]) (by simp [results,Tryz.results63,go_sem,World.cell?_setCell_same' _ _ _ (show (World.cell? _ ⟨w.heap.size,0,none⟩).isSome=true by rw [c4]; rfl)]) rfl ⟨by rw [Hs.out],Below.setCell HE.out (Nat.le_refl _) _⟩
theorem openedE_ok {g:List Ty} {l:List Int} (h:(checkB g).2=0) (hl:∀ i,i∈l->hasI g.length i=true):openedE g l=0:=by
 unfold openedE;rw [if_pos h,if_neg];simp only [List.any_eq_true,not_exists,not_and,Bool.not_eq_true];intro i hi;rw [hl i hi]; rfl
theorem openedE_bad {g:List Ty} {l:List Int} (h:(checkB g).2=30):openedE g l=30:=by
 unfold openedE;rw [if_neg (by rw [h]; decide)]
theorem classes83 (a:Option Addr) (n c:Nat) (g:List Ty) (w:World) (hg:Graph w (.slice a n c) g) :
  Calls Tryz.prog 83 #[.slice a n c] w fun e w'=>((checkB g).2=0/\∃ r,e=.returned (.tuple #[.slice (some ⟨r,0,none⟩) n n,.int .i64 0])/\RowI w' r n (fun i=>(classesOf g i:Int))/\Ext w w'/\w.heap.size<=r) \/
   ((checkB g).2=30/\e=.returned (.tuple #[.slice none 0 0,.int .i64 30])/\Ext w w'):=by
 have Hop:=dh (opened63 a n c g none 0 0 [] w hg (SlW.nil _ _ _));obtain rfl:=SlW.len hg;have Hg:=dh hg; clear hg;rcases checkB_cases g with ⟨h0,h400,hr⟩ | h0
 ·have H0:=dh h0;have Hr:=dh hr; clear hr;have hE0:=openedE_ok (l:=[]) h0 (fun i hi=>by cases hi);rw [hE0] at Hop;clear hE0 h0
  go_enter Tryz.func83,Tryz.ntmps83
  go_wp2_with fail;refine Hop.out.mono ?_;rintro e w1 ⟨rfl,hE⟩;have hE2:Ext w (w1.alloc (.cells #[.slice a g.length c] 118)):=hE.trans (Ext.alloc _ _);have HE:=dh hE2; clear hE hE2;go_wp2_with fail;refine (classes70 a _ c g _ (Graph.mono HE.out Hg.out) Hr.out h400).mono ?_;rintro e w2 ⟨r,rfl,hrow,hE,hlo⟩;have Hlo:=dh (Nat.le_trans HE.out.size hlo); clear hlo;have Hrow:=dh hrow; clear hrow;have HE2:=dh (HE.out.trans hE); clear hE;go_wp2_with fail;go_ret2;exact Or.inl ⟨H0.out,r,rfl,Hrow.out,HE2.out,Hlo.out⟩
 ·have H0:=dh h0;have hE0:=openedE_bad (l:=[]) h0;rw [hE0] at Hop;clear hE0 h0
  go_enter Tryz.func83,Tryz.ntmps83
  go_wp2_with fail;refine Hop.out.mono ?_;rintro e w1 ⟨rfl,hE⟩;have HE:=dh hE; clear hE;go_wp2_with fail;go_ret2;exact Or.inr ⟨H0.out,rfl,HE.out.trans (Ext.alloc _ _)⟩
theorem ints_two (w:World) (x y:Int) (hx:-9223372036854775808<=x/\x<=9223372036854775807) (hy:-9223372036854775808<=y/\y<=9223372036854775807) :
  Ints (w.alloc (.cells #[.int .i64 x,.int .i64 y] 3)) (.slice (some ⟨w.heap.size,0,none⟩) 2 2) [x,y] :=
 ⟨some ⟨w.heap.size,0,none⟩,2,rfl,by simp,by unfold maxBytes; simp,fun i z hi=>by
  match i,hi with
  | 0,hi=>cases hi; exact ⟨_,0,_,rfl,⟨rfl,hx⟩,rfl,fun j u hu=>by
    match j,hu with
    | 0,hu=>cases hu; exact cell_new w _ 3 0 _ rfl⟩
  | 1,hi=>cases hi; exact ⟨_,0,_,rfl,⟨rfl,hy⟩,rfl,fun j u hu=>by
    match j,hu with
    | 0,hu=>cases hu; exact cell_new w _ 3 1 _ rfl⟩⟩
theorem ints_one (w:World) (x:Int) (hx:-9223372036854775808<=x/\x<=9223372036854775807) :
  Ints (w.alloc (.cells #[.int .i64 x] 3)) (.slice (some ⟨w.heap.size,0,none⟩) 1 1) [x] :=
 ⟨some ⟨w.heap.size,0,none⟩,1,rfl,by simp,by unfold maxBytes; simp,fun i z hi=>by
  match i,hi with
  | 0,hi=>cases hi; exact ⟨_,0,_,rfl,⟨rfl,hx⟩,rfl,fun j u hu=>by
    match j,hu with
    | 0,hu=>cases hu; exact cell_new w _ 3 0 _ rfl⟩⟩
end
section
open Go.RowKit Go.Proofs
theorem addr_add0 (b off k:Nat):(⟨b,off,none⟩:Addr).add k=⟨b,off+k,none⟩:=by simp [Addr.add]
theorem flat_length (f:Nat->List Value) (sz:Nat):∀ n,(∀ i,i<n->(f i).length=sz)->(((List.range n).map f).flatten).length=n*sz
 | 0,_=>by simp
 | n+1,h=>by
  rw [List.range_succ,List.map_append,List.flatten_append,List.length_append,flat_length f sz n (fun i hi=>h i (by omega))];simp [h n (by omega),Nat.succ_mul]
theorem flat_get (f:Nat->List Value) (sz:Nat):∀ n,(∀ i,i<n->(f i).length=sz)->∀ i j,i<n->j<sz->(((List.range n).map f).flatten)[i*sz+j]? = (f i)[j]?
 | 0,_,i,j,hi,_=>absurd hi (Nat.not_lt_zero _)
 | n+1,h,i,j,hi,hj=>by
  have hl:=flat_length f sz n (fun i hi=>h i (by omega));rw [List.range_succ,List.map_append,List.flatten_append];by_cases hin:i<n
  ·have:i*sz+j<n*sz:=by
    have:(i+1)*sz<=n*sz:=Nat.mul_le_mul_right _ hin;rw [Nat.succ_mul] at this; omega
   rw [List.getElem?_append_left (by rw [hl]; exact this),flat_get f sz n (fun i hi=>h i (by omega)) i j hin hj]
  ·have:i=n:=by omega
   subst this;rw [List.getElem?_append_right (by rw [hl]; omega),hl];simp
theorem flat_back (f:Nat->List Value) (sz n:Nat) (h:∀ i,i<n->(f i).length=sz) {k:Nat} {u:Value} (hk:(((List.range n).map f).flatten)[k]? = some u) :
  ∃ i j,i<n/\j<sz/\k=i*sz+j/\(f i)[j]? = some u:=by
 have hl:=flat_length f sz n h;have hlt:k<n*sz:=by have:=(List.getElem?_eq_some_iff.1 hk).1; rwa [hl] at this
 have hs:0<sz:=by
  rcases Nat.eq_zero_or_pos sz with h0 | h0
  ·rw [h0] at hlt; simp at hlt
  ·exact h0
 have hi:k / sz<n:=(Nat.div_lt_iff_lt_mul hs).2 hlt;have hj:k % sz<sz:=Nat.mod_lt _ hs;have he:k=k / sz*sz+k % sz:=by rw [Nat.mul_comm]; exact (Nat.div_add_mod k sz).symm
 refine ⟨k / sz,k % sz,hi,hj,he,?_⟩;rw [<- flat_get f sz n h _ _ hi hj,<- he]; exact hk
theorem slw_cells {α:Type} [Inhabited α] {R:World->α->List Value->Prop} {sz:Nat} {w:World} {ad:Addr} {n c:Nat} {xs:List α} (h:SlW R sz w (.slice (some ad) n c) xs) :
  ∃ f:Nat->List Value,(∀ i,i<n->R w (nth xs i) (f i)/\(f i).length=sz)/\∀ k u,(((List.range n).map f).flatten)[k]? = some u->w.cell? (ad.add k)=some u:=by
 have hc:∀ i,∃ cs:List Value,i<n->R w (nth xs i) cs/\cs.length=sz/\∀ j u,cs[j]? = some u->w.cell? (ad.add (i*sz+j))=some u:=by
  intro i;by_cases hi:i<n
  ·obtain ⟨b,off,cs,ha,h1,h2,h3⟩:=SlW.at h hi;cases ha;refine ⟨cs,fun _=>⟨h1,h2,fun j u hu=>?_⟩⟩;have:=h3 j u hu;rw [Nat.add_assoc] at this;rw [addr_add0];exact this
  ·exact ⟨[],fun h=>absurd h hi⟩
 refine ⟨fun i=>Classical.choose (hc i),fun i hi=>⟨(Classical.choose_spec (hc i) hi).1,(Classical.choose_spec (hc i) hi).2.1⟩,fun k u hk=>?_⟩;obtain ⟨i,j,hi,hj,he,hu⟩:=flat_back _ sz n (fun i hi=>(Classical.choose_spec (hc i) hi).2.1) hk;rw [he];exact (Classical.choose_spec (hc i) hi).2.2 j u hu
theorem slw_of_owns {α:Type} [Inhabited α] {R:World->α->List Value->Prop} {sz:Nat} {w:World} {base:Nat} {e:TypeId} {v:Value} {xs:List α} {f:Nat->List Value}
  (h:w.ownsRow base e sz v xs.length (((List.range xs.length).map f).flatten)) (hR:∀ i,i<xs.length->R w (nth xs i) (f i)/\(f i).length=sz) (hn:xs.length*(8*sz)<=maxBytes):SlW R sz w v xs:=by
 obtain ⟨hlen,h⟩:=h;rcases h with ⟨rfl,h0⟩ | ⟨g,cap,cur,rfl,_,hg,hnc,_,hcs,htake⟩
 ·have:xs=[]:=List.eq_nil_of_length_eq_zero h0;subst this;exact SlW.nil _ _ _
 ·refine ⟨some ⟨g,0,none⟩,cap,rfl,hnc,hn,fun i x hi=>?_⟩;have hil:i<xs.length:=(List.getElem?_eq_some_iff.1 hi).1;have hx:x=nth xs i:=by rw [get_of_lt hil] at hi; exact (Option.some.inj hi).symm
  subst hx;refine ⟨g,0,f i,rfl,(hR i hil).1,(hR i hil).2,fun j u hu=>?_⟩;have hj:j<sz:=by have:=(List.getElem?_eq_some_iff.1 hu).1; rwa [(hR i hil).2] at this
  have h1:=flat_get f sz xs.length (fun i hi=>(hR i hi).2) i j hil hj;have h2:i*sz+j<xs.length*sz:=by
   have:(i+1)*sz<=xs.length*sz:=Nat.mul_le_mul_right _ hil;rw [Nat.succ_mul] at this; omega
  rw [Nat.zero_add,cell_of_row w g (i*sz+j) cur e (0,0) hg];have h3:=congrArg (fun z=>z[i*sz+j]?) htake;simp only [List.getElem?_take] at h3;rw [if_pos h2,h1,hu] at h3
  simpa using h3
theorem info3c:(Tryz.prog.info? 3).map (fun i=>(i.zero,i.size,i.bytes))=some (some (.int .i64 0),1,8):=by kernel_rfl
theorem clone119 (a:Option Addr) (n c:Nat) (xs:List Int) (w:World) (hx:Ints w (.slice a n c) xs) (hn:n<=1000) :
  Calls Tryz.prog 119 #[.slice a n c] w fun e w'=>∃ v,e=.returned v/\Ext w w'/\Ints w' v xs /\
   ∃ f:Nat->List Value,(∀ i,i<n->IsInt w (nth xs i) (f i)/\(f i).length=1)/\w'.ownsRow w.heap.size 3 1 v n (((List.range n).map f).flatten):=by
 have hlen:=SlW.len hx;cases a with
 | none =>
  have hn0:n=0:=by
   rcases Nat.eq_zero_or_pos n with h0 | h0
   ·exact h0
   ·obtain ⟨b,off,cs,ha,_⟩:=SlW.at hx h0; cases ha
  subst hn0;have hxs:xs=[]:=List.eq_nil_of_length_eq_zero hlen.symm;subst hxs;clear hlen hx;have hq:∀ w,(binOp .eql 35 (.slice none 0 c) (.slice none 0 0)).run Tryz.prog w=.ok (.bool true) w:=fun _=>by kernel_rfl
  go_enter Tryz.func119,Tryz.ntmps119
  go_wp2;go_ret;exact ⟨_,rfl,Ext.refl _,SlW.nil _ _ _,fun _=>[],fun i hi=>absurd hi (Nat.not_lt_zero _),World.ownsRow_nil _ _ _ _⟩
 | some ad =>
  obtain ⟨f,hf,hcells⟩:=slw_cells hx;have hfl:=flat_length f 1 n (fun i hi=>(hf i hi).2);have hone:∀ u∈((List.range n).map f).flatten,u.oneCell'=true:=by
   intro u hu;obtain ⟨k,hk,rfl⟩:=List.getElem_of_mem hu;obtain ⟨i,j,hi,hj,_,hij⟩:=flat_back f 1 n (fun i hi=>(hf i hi).2) (List.getElem?_eq_getElem hk);have hR:=(hf i hi).1;obtain ⟨he,_⟩:=hR;rw [he] at hij
   match j,hij with
   | 0,hij=>simp at hij; rw [<- hij]; rfl
  have Hlen:=dh hlen; clear hlen;have Hf:=dh hf; clear hf;have Hc:=dh hcells; clear hcells hx;obtain ⟨i0,hi,hz0,hz1,hz2⟩:=info_parts info3c;obtain ⟨L,hL⟩:∃ L,L=((List.range n).map f).flatten:=⟨_,rfl⟩;rw [<- hL] at hfl hone;have HL:=dh hL; clear hL;have hown:=World.ownsRow_lit (base:=w.heap.size) (e:=3) (size:=1) w #[] 0 (Nat.le_refl _) (Nat.zero_le _) (by simp);have hq:∀ w,(binOp .eql 35 (.slice (some ad) n c) (.slice none 0 0)).run Tryz.prog w=.ok (.bool false) w:=fun _=>by kernel_rfl
  go_enter Tryz.func119,Tryz.ntmps119
  go_wp2_with (at_builtin; refine wpList_append_own _ rfl _ _ 35 rfl w.heap.size 3 i0 (.int .i64 0) 1 8 Tryz.underlying35 hi hz0 hz1 hz2 rfl (by decide) _ 0 [] rfl hown ad n c L rfl hfl (fun j u hu=>?c1) hone (by unfold maxLen; omega) (by omega) (by simp) ?_)
  case c1=>exact (Ext.alloc _ _).cell (Hc.out j u (by rw [<- HL.out]; exact hu))
  intro v' w3 hown3 hgrow3 _;have hE3:Ext w w3:=Below.grown ((Below.refl w.heap.size w).alloc (Nat.le_refl _) (.cells #[] 3)) hgrow3 (by simp) (fun k hk=>by simp [Value.ownBlock] at hk; omega);have HE:=dh hE3; clear hE3;have Ho:=dh hown3; clear hown3 hgrow3;go_wp2_with fail;go_ret;have ho:=Ho.out;rw [HL.out] at ho;refine ⟨v',rfl,HE.out,slw_of_owns (by rw [<- Hlen.out]; exact ho) (fun i hi=>?_) (by rw [<- Hlen.out]; unfold maxBytes; omega),f,Hf.out,ho⟩;have hR:=Hf.out i (by rw [Hlen.out]; exact hi);exact ⟨hR.1,hR.2⟩
theorem info9c:(Tryz.prog.info? 9).map (fun i=>(i.zero,i.size,i.bytes))=some (some (.string ⟨#[]⟩),1,16):=by kernel_rfl
theorem clone114 (a:Option Addr) (n c:Nat) (xs:List BA) (w:World) (hx:Strs w (.slice a n c) xs) (hn:n<=1000) :
  Calls Tryz.prog 114 #[.slice a n c] w fun e w'=>∃ v,e=.returned v/\Ext w w'/\Strs w' v xs /\
   ∃ f:Nat->List Value,(∀ i,i<n->IsStr w (nth xs i) (f i)/\(f i).length=1)/\w'.ownsRow w.heap.size 9 1 v n (((List.range n).map f).flatten):=by
 have hlen:=SlW.len hx;cases a with
 | none =>
  have hn0:n=0:=by
   rcases Nat.eq_zero_or_pos n with h0 | h0
   ·exact h0
   ·obtain ⟨b,off,cs,ha,_⟩:=SlW.at hx h0; cases ha
  subst hn0;have hxs:xs=[]:=List.eq_nil_of_length_eq_zero hlen.symm;subst hxs;clear hlen hx;have hq:∀ w,(binOp .eql 84 (.slice none 0 c) (.slice none 0 0)).run Tryz.prog w=.ok (.bool true) w:=fun _=>by kernel_rfl
  go_enter Tryz.func114,Tryz.ntmps114
  go_wp2;go_ret;exact ⟨_,rfl,Ext.refl _,SlW.nil _ _ _,fun _=>[],fun i hi=>absurd hi (Nat.not_lt_zero _),World.ownsRow_nil _ _ _ _⟩
 | some ad =>
  obtain ⟨f,hf,hcells⟩:=slw_cells hx;have hfl:=flat_length f 1 n (fun i hi=>(hf i hi).2);have hone:∀ u∈((List.range n).map f).flatten,u.oneCell'=true:=by
   intro u hu;obtain ⟨k,hk,rfl⟩:=List.getElem_of_mem hu;obtain ⟨i,j,hi,hj,_,hij⟩:=flat_back f 1 n (fun i hi=>(hf i hi).2) (List.getElem?_eq_getElem hk);have hR:=(hf i hi).1;obtain ⟨he,_⟩:=hR;rw [he] at hij
   match j,hij with
   | 0,hij=>simp at hij; rw [<- hij]; rfl
  have Hlen:=dh hlen; clear hlen;have Hf:=dh hf; clear hf;have Hc:=dh hcells; clear hcells hx;obtain ⟨i0,hi,hz0,hz1,hz2⟩:=info_parts info9c;obtain ⟨L,hL⟩:∃ L,L=((List.range n).map f).flatten:=⟨_,rfl⟩;rw [<- hL] at hfl hone;have HL:=dh hL; clear hL;have hown:=World.ownsRow_lit (base:=w.heap.size) (e:=9) (size:=1) w #[] 0 (Nat.le_refl _) (Nat.zero_le _) (by simp);have hq:∀ w,(binOp .eql 84 (.slice (some ad) n c) (.slice none 0 0)).run Tryz.prog w=.ok (.bool false) w:=fun _=>by kernel_rfl
  go_enter Tryz.func114,Tryz.ntmps114
  go_wp2_with (at_builtin; refine wpList_append_own _ rfl _ _ 84 rfl w.heap.size 9 i0 (.string ⟨#[]⟩) 1 16 Tryz.underlying84 hi hz0 hz1 hz2 rfl (by decide) _ 0 [] rfl hown ad n c L rfl hfl (fun j u hu=>?c1) hone (by unfold maxLen; omega) (by omega) (by simp) ?_)
  case c1=>exact (Ext.alloc _ _).cell (Hc.out j u (by rw [<- HL.out]; exact hu))
  intro v' w3 hown3 hgrow3 _;have hE3:Ext w w3:=Below.grown ((Below.refl w.heap.size w).alloc (Nat.le_refl _) (.cells #[] 9)) hgrow3 (by simp) (fun k hk=>by simp [Value.ownBlock] at hk; omega);have HE:=dh hE3; clear hE3;have Ho:=dh hown3; clear hown3 hgrow3;go_wp2_with fail;go_ret;have ho:=Ho.out;rw [HL.out] at ho;refine ⟨v',rfl,HE.out,slw_of_owns (by rw [<- Hlen.out]; exact ho) (fun i hi=>?_) (by rw [<- Hlen.out]; unfold maxBytes; omega),f,Hf.out,ho⟩;have hR:=Hf.out i (by rw [Hlen.out]; exact hi);exact ⟨hR.1,hR.2⟩
theorem info83c:(Tryz.prog.info? 83).map (fun i=>(i.zero,i.size,i.bytes))=some (some (.agg #[.string ⟨#[]⟩,.int .i64 0]),2,24):=by kernel_rfl
theorem clone117 (a:Option Addr) (n c:Nat) (xs:List Part) (w:World) (hx:Parts w (.slice a n c) xs) (hn:n<=1000) :
  Calls Tryz.prog 117 #[.slice a n c] w fun e w'=>∃ v,e=.returned v/\Ext w w'/\Parts w' v xs /\
   ∃ f:Nat->List Value,(∀ i,i<n->IsPart w (nth xs i) (f i)/\(f i).length=2)/\w'.ownsRow w.heap.size 83 2 v n (((List.range n).map f).flatten):=by
 have hlen:=SlW.len hx;cases a with
 | none =>
  have hn0:n=0:=by
   rcases Nat.eq_zero_or_pos n with h0 | h0
   ·exact h0
   ·obtain ⟨b,off,cs,ha,_⟩:=SlW.at hx h0; cases ha
  subst hn0;have hxs:xs=[]:=List.eq_nil_of_length_eq_zero hlen.symm;subst hxs;clear hlen hx;have hq:∀ w,(binOp .eql 46 (.slice none 0 c) (.slice none 0 0)).run Tryz.prog w=.ok (.bool true) w:=fun _=>by kernel_rfl
  go_enter Tryz.func117,Tryz.ntmps117
  go_wp2;go_ret;exact ⟨_,rfl,Ext.refl _,SlW.nil _ _ _,fun _=>[],fun i hi=>absurd hi (Nat.not_lt_zero _),World.ownsRow_nil _ _ _ _⟩
 | some ad =>
  obtain ⟨f,hf,hcells⟩:=slw_cells hx;have hfl:=flat_length f 2 n (fun i hi=>(hf i hi).2);have hone:∀ u∈((List.range n).map f).flatten,u.oneCell'=true:=by
   intro u hu;obtain ⟨k,hk,rfl⟩:=List.getElem_of_mem hu;obtain ⟨i,j,hi,hj,_,hij⟩:=flat_back f 2 n (fun i hi=>(hf i hi).2) (List.getElem?_eq_getElem hk);have hR:=(hf i hi).1;obtain ⟨he,_⟩:=hR;rw [he] at hij
   match j,hij with
   | 0,hij=>simp at hij; rw [<- hij]; rfl
   | 1,hij=>simp at hij; rw [<- hij]; rfl
  have Hlen:=dh hlen; clear hlen;have Hf:=dh hf; clear hf;have Hc:=dh hcells; clear hcells hx;obtain ⟨i0,hi,hz0,hz1,hz2⟩:=info_parts info83c;obtain ⟨L,hL⟩:∃ L,L=((List.range n).map f).flatten:=⟨_,rfl⟩;rw [<- hL] at hfl hone;have HL:=dh hL; clear hL;have hown:=World.ownsRow_lit (base:=w.heap.size) (e:=83) (size:=2) w #[] 0 (Nat.le_refl _) (Nat.zero_le _) (by simp);have hq:∀ w,(binOp .eql 46 (.slice (some ad) n c) (.slice none 0 0)).run Tryz.prog w=.ok (.bool false) w:=fun _=>by kernel_rfl
  go_enter Tryz.func117,Tryz.ntmps117
  go_wp2_with (at_builtin; refine wpList_append_own _ rfl _ _ 46 rfl w.heap.size 83 i0 (.agg #[.string ⟨#[]⟩,.int .i64 0]) 2 24 Tryz.underlying46 hi hz0 hz1 hz2 rfl (by decide) _ 0 [] rfl hown ad n c L rfl hfl (fun j u hu=>?c1) hone (by unfold maxLen; omega) (by omega) (by simp) ?_)
  case c1=>exact (Ext.alloc _ _).cell (Hc.out j u (by rw [<- HL.out]; exact hu))
  intro v' w3 hown3 hgrow3 _;have hE3:Ext w w3:=Below.grown ((Below.refl w.heap.size w).alloc (Nat.le_refl _) (.cells #[] 83)) hgrow3 (by simp) (fun k hk=>by simp [Value.ownBlock] at hk; omega);have HE:=dh hE3; clear hE3;have Ho:=dh hown3; clear hown3 hgrow3;go_wp2_with fail;go_ret;have ho:=Ho.out;rw [HL.out] at ho;refine ⟨v',rfl,HE.out,slw_of_owns (by rw [<- Hlen.out]; exact ho) (fun i hi=>?_) (by rw [<- Hlen.out]; unfold maxBytes; omega),f,Hf.out,ho⟩;have hR:=Hf.out i (by rw [Hlen.out]; exact hi);exact ⟨hR.1,hR.2⟩
theorem info169c:(Tryz.prog.info? 169).map (fun i=>(i.zero,i.size,i.bytes))=some (some (.agg #[.string ⟨#[]⟩,.string ⟨#[]⟩]),2,32):=by kernel_rfl
theorem clone115 (a:Option Addr) (n c:Nat) (xs:List Over) (w:World) (hx:Overs w (.slice a n c) xs) (hn:n<=1000) :
  Calls Tryz.prog 115 #[.slice a n c] w fun e w'=>∃ v,e=.returned v/\Ext w w'/\Overs w' v xs /\
   ∃ f:Nat->List Value,(∀ i,i<n->IsOver w (nth xs i) (f i)/\(f i).length=2)/\w'.ownsRow w.heap.size 169 2 v n (((List.range n).map f).flatten):=by
 have hlen:=SlW.len hx;cases a with
 | none =>
  have hn0:n=0:=by
   rcases Nat.eq_zero_or_pos n with h0 | h0
   ·exact h0
   ·obtain ⟨b,off,cs,ha,_⟩:=SlW.at hx h0; cases ha
  subst hn0;have hxs:xs=[]:=List.eq_nil_of_length_eq_zero hlen.symm;subst hxs;clear hlen hx;have hq:∀ w,(binOp .eql 48 (.slice none 0 c) (.slice none 0 0)).run Tryz.prog w=.ok (.bool true) w:=fun _=>by kernel_rfl
  go_enter Tryz.func115,Tryz.ntmps115
  go_wp2;go_ret;exact ⟨_,rfl,Ext.refl _,SlW.nil _ _ _,fun _=>[],fun i hi=>absurd hi (Nat.not_lt_zero _),World.ownsRow_nil _ _ _ _⟩
 | some ad =>
  obtain ⟨f,hf,hcells⟩:=slw_cells hx;have hfl:=flat_length f 2 n (fun i hi=>(hf i hi).2);have hone:∀ u∈((List.range n).map f).flatten,u.oneCell'=true:=by
   intro u hu;obtain ⟨k,hk,rfl⟩:=List.getElem_of_mem hu;obtain ⟨i,j,hi,hj,_,hij⟩:=flat_back f 2 n (fun i hi=>(hf i hi).2) (List.getElem?_eq_getElem hk);have hR:=(hf i hi).1;obtain ⟨he,_⟩:=hR;rw [he] at hij
   match j,hij with
   | 0,hij=>simp at hij; rw [<- hij]; rfl
   | 1,hij=>simp at hij; rw [<- hij]; rfl
  have Hlen:=dh hlen; clear hlen;have Hf:=dh hf; clear hf;have Hc:=dh hcells; clear hcells hx;obtain ⟨i0,hi,hz0,hz1,hz2⟩:=info_parts info169c;obtain ⟨L,hL⟩:∃ L,L=((List.range n).map f).flatten:=⟨_,rfl⟩;rw [<- hL] at hfl hone;have HL:=dh hL; clear hL;have hown:=World.ownsRow_lit (base:=w.heap.size) (e:=169) (size:=2) w #[] 0 (Nat.le_refl _) (Nat.zero_le _) (by simp);have hq:∀ w,(binOp .eql 48 (.slice (some ad) n c) (.slice none 0 0)).run Tryz.prog w=.ok (.bool false) w:=fun _=>by kernel_rfl
  go_enter Tryz.func115,Tryz.ntmps115
  go_wp2_with (at_builtin; refine wpList_append_own _ rfl _ _ 48 rfl w.heap.size 169 i0 (.agg #[.string ⟨#[]⟩,.string ⟨#[]⟩]) 2 32 Tryz.underlying48 hi hz0 hz1 hz2 rfl (by decide) _ 0 [] rfl hown ad n c L rfl hfl (fun j u hu=>?c1) hone (by unfold maxLen; omega) (by omega) (by simp) ?_)
  case c1=>exact (Ext.alloc _ _).cell (Hc.out j u (by rw [<- HL.out]; exact hu))
  intro v' w3 hown3 hgrow3 _;have hE3:Ext w w3:=Below.grown ((Below.refl w.heap.size w).alloc (Nat.le_refl _) (.cells #[] 169)) hgrow3 (by simp) (fun k hk=>by simp [Value.ownBlock] at hk; omega);have HE:=dh hE3; clear hE3;have Ho:=dh hown3; clear hown3 hgrow3;go_wp2_with fail;go_ret;have ho:=Ho.out;rw [HL.out] at ho;refine ⟨v',rfl,HE.out,slw_of_owns (by rw [<- Hlen.out]; exact ho) (fun i hi=>?_) (by rw [<- Hlen.out]; unfold maxBytes; omega),f,Hf.out,ho⟩;have hR:=Hf.out i (by rw [Hlen.out]; exact hi);exact ⟨hR.1,hR.2⟩
theorem info43c:(Tryz.prog.info? 43).map (fun i=>(i.zero,i.size,i.bytes))=some (some (.agg #[.string ⟨#[]⟩,.bool false,.int .i64 0]),3,32):=by kernel_rfl
theorem clone85 (a:Option Addr) (n c:Nat) (xs:List Reveal) (w:World) (hx:Reveals w (.slice a n c) xs) (hn:n<=1000) :
  Calls Tryz.prog 85 #[.slice a n c] w fun e w'=>∃ v,e=.returned v/\Ext w w'/\Reveals w' v xs /\
   ∃ f:Nat->List Value,(∀ i,i<n->IsReveal w (nth xs i) (f i)/\(f i).length=3)/\w'.ownsRow w.heap.size 43 3 v n (((List.range n).map f).flatten):=by
 have hlen:=SlW.len hx;cases a with
 | none =>
  have hn0:n=0:=by
   rcases Nat.eq_zero_or_pos n with h0 | h0
   ·exact h0
   ·obtain ⟨b,off,cs,ha,_⟩:=SlW.at hx h0; cases ha
  subst hn0;have hxs:xs=[]:=List.eq_nil_of_length_eq_zero hlen.symm;subst hxs;clear hlen hx;have hq:∀ w,(binOp .eql 24 (.slice none 0 c) (.slice none 0 0)).run Tryz.prog w=.ok (.bool true) w:=fun _=>by kernel_rfl
  go_enter Tryz.func85,Tryz.ntmps85
  go_wp2;go_ret;exact ⟨_,rfl,Ext.refl _,SlW.nil _ _ _,fun _=>[],fun i hi=>absurd hi (Nat.not_lt_zero _),World.ownsRow_nil _ _ _ _⟩
 | some ad =>
  obtain ⟨f,hf,hcells⟩:=slw_cells hx;have hfl:=flat_length f 3 n (fun i hi=>(hf i hi).2);have hone:∀ u∈((List.range n).map f).flatten,u.oneCell'=true:=by
   intro u hu;obtain ⟨k,hk,rfl⟩:=List.getElem_of_mem hu;obtain ⟨i,j,hi,hj,_,hij⟩:=flat_back f 3 n (fun i hi=>(hf i hi).2) (List.getElem?_eq_getElem hk);have hR:=(hf i hi).1;obtain ⟨he,_⟩:=hR;rw [he] at hij
   match j,hij with
   | 0,hij=>simp at hij; rw [<- hij]; rfl
   | 1,hij=>simp at hij; rw [<- hij]; rfl
   | 2,hij=>simp at hij; rw [<- hij]; rfl
  have Hlen:=dh hlen; clear hlen;have Hf:=dh hf; clear hf;have Hc:=dh hcells; clear hcells hx;obtain ⟨i0,hi,hz0,hz1,hz2⟩:=info_parts info43c;obtain ⟨L,hL⟩:∃ L,L=((List.range n).map f).flatten:=⟨_,rfl⟩;rw [<- hL] at hfl hone;have HL:=dh hL; clear hL;have hown:=World.ownsRow_lit (base:=w.heap.size) (e:=43) (size:=3) w #[] 0 (Nat.le_refl _) (Nat.zero_le _) (by simp);have hq:∀ w,(binOp .eql 24 (.slice (some ad) n c) (.slice none 0 0)).run Tryz.prog w=.ok (.bool false) w:=fun _=>by kernel_rfl
  go_enter Tryz.func85,Tryz.ntmps85
  go_wp2_with (at_builtin; refine wpList_append_own _ rfl _ _ 24 rfl w.heap.size 43 i0 (.agg #[.string ⟨#[]⟩,.bool false,.int .i64 0]) 3 32 Tryz.underlying24 hi hz0 hz1 hz2 rfl (by decide) _ 0 [] rfl hown ad n c L rfl hfl (fun j u hu=>?c1) hone (by unfold maxLen; omega) (by omega) (by simp) ?_)
  case c1=>exact (Ext.alloc _ _).cell (Hc.out j u (by rw [<- HL.out]; exact hu))
  intro v' w3 hown3 hgrow3 _;have hE3:Ext w w3:=Below.grown ((Below.refl w.heap.size w).alloc (Nat.le_refl _) (.cells #[] 43)) hgrow3 (by simp) (fun k hk=>by simp [Value.ownBlock] at hk; omega);have HE:=dh hE3; clear hE3;have Ho:=dh hown3; clear hown3 hgrow3;go_wp2_with fail;go_ret;have ho:=Ho.out;rw [HL.out] at ho;refine ⟨v',rfl,HE.out,slw_of_owns (by rw [<- Hlen.out]; exact ho) (fun i hi=>?_) (by rw [<- Hlen.out]; unfold maxBytes; omega),f,Hf.out,ho⟩;have hR:=Hf.out i (by rw [Hlen.out]; exact hi);exact ⟨hR.1,hR.2⟩
theorem info88c:(Tryz.prog.info? 88).map (fun i=>(i.zero,i.size,i.bytes))=some (some (.agg #[.string ⟨#[]⟩,.slice none 0 0,.int .i64 0,.slice none 0 0,.string ⟨#[]⟩]),5,88):=by kernel_rfl
theorem info50c:(Tryz.prog.info? 50).map (fun i=>(i.zero,i.size,i.bytes))=some (some (.agg #[.int .u8 0,.int .i64 0,.int .i64 0,.bool false,.string ⟨#[]⟩,.string ⟨#[]⟩,.int .i64 0,.slice none 0 0,.slice none 0 0,.slice none 0 0]),10,144):=by kernel_rfl
theorem clone116 (a:Option Addr) (n c:Nat) (xs:List Ty) (w:World) (hx:Graph w (.slice a n c) xs) (hn:n<=1000) :
  Calls Tryz.prog 116 #[.slice a n c] w fun e w'=>∃ v,e=.returned v/\Ext w w'/\Graph w' v xs /\
   ∃ f:Nat->List Value,(∀ i,i<n->IsTy w (nth xs i) (f i)/\(f i).length=10)/\w'.ownsRow w.heap.size 50 10 v n (((List.range n).map f).flatten):=by
 have hlen:=SlW.len hx;cases a with
 | none =>
  have hn0:n=0:=by
   rcases Nat.eq_zero_or_pos n with h0 | h0
   ·exact h0
   ·obtain ⟨b,off,cs,ha,_⟩:=SlW.at hx h0; cases ha
  subst hn0;have hxs:xs=[]:=List.eq_nil_of_length_eq_zero hlen.symm;subst hxs;clear hlen hx;have hq:∀ w,(binOp .eql 23 (.slice none 0 c) (.slice none 0 0)).run Tryz.prog w=.ok (.bool true) w:=fun _=>by kernel_rfl
  go_enter Tryz.func116,Tryz.ntmps116
  go_wp2;go_ret;exact ⟨_,rfl,Ext.refl _,SlW.nil _ _ _,fun _=>[],fun i hi=>absurd hi (Nat.not_lt_zero _),World.ownsRow_nil _ _ _ _⟩
 | some ad =>
  obtain ⟨f,hf,hcells⟩:=slw_cells hx;have hfl:=flat_length f 10 n (fun i hi=>(hf i hi).2);have hone:∀ u∈((List.range n).map f).flatten,u.oneCell'=true:=by
   intro u hu;obtain ⟨k,hk,rfl⟩:=List.getElem_of_mem hu;obtain ⟨i,j,hi,hj,_,hij⟩:=flat_back f 10 n (fun i hi=>(hf i hi).2) (List.getElem?_eq_getElem hk);have hR:=(hf i hi).1;obtain ⟨pv,mv,ov,he,h1,h2,h3,_⟩:=hR;obtain ⟨_,_,rfl,_⟩:=h1;obtain ⟨_,_,rfl,_⟩:=h2;obtain ⟨_,_,rfl,_⟩:=h3;rw [he] at hij;unfold tyCells at hij
   match j,hij with
   | 0,hij=>simp at hij; rw [<- hij]; rfl
   | 1,hij=>simp at hij; rw [<- hij]; rfl
   | 2,hij=>simp at hij; rw [<- hij]; rfl
   | 3,hij=>simp at hij; rw [<- hij]; rfl
   | 4,hij=>simp at hij; rw [<- hij]; rfl
   | 5,hij=>simp at hij; rw [<- hij]; rfl
   | 6,hij=>simp at hij; rw [<- hij]; rfl
   | 7,hij=>simp at hij; rw [<- hij]; rfl
   | 8,hij=>simp at hij; rw [<- hij]; rfl
   | 9,hij=>simp at hij; rw [<- hij]; rfl
  have Hlen:=dh hlen; clear hlen;have Hf:=dh hf; clear hf;have Hc:=dh hcells; clear hcells hx;obtain ⟨i0,hi,hz0,hz1,hz2⟩:=info_parts info50c;obtain ⟨L,hL⟩:∃ L,L=((List.range n).map f).flatten:=⟨_,rfl⟩;rw [<- hL] at hfl hone;have HL:=dh hL; clear hL;have hown:=World.ownsRow_lit (base:=w.heap.size) (e:=50) (size:=10) w #[] 0 (Nat.le_refl _) (Nat.zero_le _) (by simp);have hq:∀ w,(binOp .eql 23 (.slice (some ad) n c) (.slice none 0 0)).run Tryz.prog w=.ok (.bool false) w:=fun _=>by kernel_rfl
  go_enter Tryz.func116,Tryz.ntmps116
  go_wp2_with (at_builtin; refine wpList_append_own _ rfl _ _ 23 rfl w.heap.size 50 i0 (.agg #[.int .u8 0,.int .i64 0,.int .i64 0,.bool false,.string ⟨#[]⟩,.string ⟨#[]⟩,.int .i64 0,.slice none 0 0,.slice none 0 0,.slice none 0 0]) 10 144 Tryz.underlying23 hi hz0 hz1 hz2 rfl (by decide) _ 0 [] rfl hown ad n c L rfl hfl (fun j u hu=>?c1) hone (by unfold maxLen; omega) (by omega) (by simp) ?_)
  case c1=>exact (Ext.alloc _ _).cell (Hc.out j u (by rw [<- HL.out]; exact hu))
  intro v' w3 hown3 hgrow3 _;have hE3:Ext w w3:=Below.grown ((Below.refl w.heap.size w).alloc (Nat.le_refl _) (.cells #[] 50)) hgrow3 (by simp) (fun k hk=>by simp [Value.ownBlock] at hk; omega);have HE:=dh hE3; clear hE3;have Ho:=dh hown3; clear hown3 hgrow3;go_wp2_with fail;go_ret;have ho:=Ho.out;rw [HL.out] at ho;refine ⟨v',rfl,HE.out,slw_of_owns (by rw [<- Hlen.out]; exact ho) (fun i hi=>?_) (by rw [<- Hlen.out]; unfold maxBytes; omega),f,Hf.out,ho⟩;have hR:=Hf.out i (by rw [Hlen.out]; exact hi);exact ⟨IsTy.mono HE.out hR.1,hR.2⟩
end
section
open Go.RowKit Go.Proofs
def wordOf (s j:Nat):Nat:=(s >>> (64*j)) % 2 ^ 64
def BitsAt (w:World) (b off s:Nat):Prop:=∀ j,j<7->w.cell? ⟨b,off+j,none⟩=some (.int .u64 (wordOf s j:Nat))
theorem BitsAt.mono {w w':World} {b off s:Nat} (hE:Ext w w') (h:BitsAt w b off s):BitsAt w' b off s:=fun j hj=>hE.cell (h j hj)
theorem word_bit (s t:Nat):(wordOf s (t / 64)).testBit (t % 64)=s.testBit t:=by
 unfold wordOf;rw [Nat.testBit_mod_two_pow,Nat.testBit_shiftRight];have h1:t % 64<64:=Nat.mod_lt _ (by decide);rw [decide_eq_true h1,Bool.true_and,Nat.div_add_mod]
theorem has48 (b off s t:Nat) (ht:t<448) (w:World) (hb:BitsAt w b off s) :
  Calls Tryz.prog 48 #[.pointer (some ⟨b,off,none⟩),.int .i64 t] w fun e w'=>e=.returned (.bool (s.testBit t))/\w'=w:=by
 have hj:t / 64<7:=by omega
 have hc:=hb (t / 64) hj;have hq:((t:Int).tdiv 64)=((t / 64:Nat):Int):=by rw [Int.tdiv_eq_ediv_of_nonneg (by omega)]; rfl
 have hm:((t:Int).tmod 64)=((t % 64:Nat):Int):=by rw [Int.tmod_eq_emod_of_nonneg (by omega)]; rfl
 obtain ⟨q,hqd⟩:∃ q,q=t / 64:=⟨_,rfl⟩;obtain ⟨m,hmd⟩:∃ m,m=t % 64:=⟨_,rfl⟩;rw [<- hqd] at hc hq hj;rw [<- hmd] at hm;have hm64:m<64:=by omega
 have Hb:=dh hb; clear hb;have Hq:=dh hqd; clear hqd;have Hm:=dh hmd; clear hmd
 go_enter Tryz.func48,Tryz.ntmps48
 go_wp2;go_ret;refine ⟨ret_bool ?_,rfl⟩;have hw:wordOf s q<2 ^ 64:=Nat.mod_lt _ (by decide);have he:((wordOf s q:Int) / 2 ^ m)=((wordOf s q / 2 ^ m:Nat):Int):=by simp
 have hle:wordOf s q / 2 ^ m<=wordOf s q:=Nat.div_le_self _ _;rw [he,<- word_bit s t,<- Hq.out,<- Hm.out,Nat.testBit_eq_decide_div_mod_eq];obtain ⟨z,hz⟩:∃ z,z=wordOf s q / 2 ^ m:=⟨_,rfl⟩;rw [<- hz] at hle ⊢;rw [and_one_u64 _ (by omega) (by omega),Bool.eq_iff_iff];simp; omega
theorem word_or_same (s t:Nat):wordOf (s ||| 2 ^ t) (t / 64)=wordOf s (t / 64) ||| 2 ^ (t % 64):=by
 apply Nat.eq_of_testBit_eq;intro i;unfold wordOf;rw [Nat.testBit_mod_two_pow,Nat.testBit_shiftRight,Nat.testBit_or,Nat.testBit_or,Nat.testBit_mod_two_pow,Nat.testBit_shiftRight,Nat.testBit_two_pow,Nat.testBit_two_pow];have h:=Nat.div_add_mod t 64;have h1:t % 64<64:=Nat.mod_lt _ (by decide);by_cases hi:i<64
 ·have:(t=64*(t / 64)+i)↔(t % 64=i):=by omega
  simp [hi,this]
 ·have:¬ t % 64=i:=by omega
  simp [hi,this]
theorem word_or_other (s t j:Nat) (hj:j≠t / 64):wordOf (s ||| 2 ^ t) j=wordOf s j:=by
 apply Nat.eq_of_testBit_eq;intro i;unfold wordOf;rw [Nat.testBit_mod_two_pow,Nat.testBit_shiftRight,Nat.testBit_or,Nat.testBit_mod_two_pow,Nat.testBit_shiftRight,Nat.testBit_two_pow];by_cases hi:i<64
 ·have:¬ t=64*j+i:=by omega
  simp [hi,this]
 ·simp [hi]
theorem BitsAt.add {w:World} {b off s:Nat} (h:BitsAt w b off s) (t:Nat):BitsAt (w.setCell ⟨b,off+t / 64,none⟩ (.int .u64 (wordOf s (t / 64) ||| 2 ^ (t % 64):Nat))) b off (s ||| 2 ^ t):=by
 intro j hj;by_cases he:j=t / 64
 ·subst he;rw [word_or_same];exact World.cell?_setCell_same' _ _ _ (by rw [h _ hj]; rfl)
 ·rw [word_or_other s t j he,<- h j hj];exact World.cell?_setCell_other _ _ _ _ (by simp; try omega)
theorem add88 (b off s t:Nat) (ht:t<448) (w:World) (hb:BitsAt w b off s) (hf:∀ j,w.frozen? ⟨b,off+j,none⟩=false) :
  Calls Tryz.prog 88 #[.pointer (some ⟨b,off,none⟩),.int .i64 t] w fun e w'=>(∃ v,e=.returned v)/\w'=(w.setCell ⟨b,off+t / 64,none⟩ (.int .u64 (wordOf s (t / 64) ||| 2 ^ (t % 64):Nat))).drew:=by
 have hj:t / 64<7:=by omega
 have hc:=hb (t / 64) hj;have hfr:=hf (t / 64);have hq:((t:Int).tdiv 64)=((t / 64:Nat):Int):=by rw [Int.tdiv_eq_ediv_of_nonneg (by omega)]; rfl
 have hm:((t:Int).tmod 64)=((t % 64:Nat):Int):=by rw [Int.tmod_eq_emod_of_nonneg (by omega)]; rfl
 obtain ⟨q,hqd⟩:∃ q,q=t / 64:=⟨_,rfl⟩;obtain ⟨m,hmd⟩:∃ m,m=t % 64:=⟨_,rfl⟩;rw [<- hqd] at hc hq hj hfr ⊢;rw [<- hmd] at hm ⊢;have hm64:m<64:=by omega
 have hwq:IntKind.i64.wrap (q:Int)=q:=by rw [IntKind.wrap_i64]; omega
 have hwm:IntKind.i64.wrap (m:Int)=m:=by rw [IntKind.wrap_i64]; omega
 have hq7:(q:Int)<7:=by omega
 clear hb hf;have Hq:=dh hqd; clear hqd;have Hm:=dh hmd; clear hmd
 go_enter Tryz.func88,Tryz.ntmps88
 go_upto_region 0 with (fail);have hor:bits BinOp.or IntKind.u64 (wordOf s q:Nat) (IntKind.u64.wrap (2 ^ m))=((wordOf s q ||| 2 ^ m:Nat):Int):=by
  obtain ⟨z,hz⟩:∃ z:Nat,z=2 ^ m:=⟨_,rfl⟩;have h2:z<18446744073709551616:=by rw [hz]; exact Nat.lt_of_lt_of_eq (Nat.pow_lt_pow_right (by decide) hm64) (by decide)
  have h3:(2:Int) ^ m=(z:Int):=by rw [hz]; simp
  rw [h3,<- hz,IntKind.wrap_u64,show ((z:Int) % 18446744073709551616)=z by omega];exact bits_or_u64_nat _ _ (Nat.mod_lt _ (by decide)) h2
 have HS:=dh (Ext.drew w);refine wp_region_L [12] (Ext w) (by kernel_rfl) ?_;change wpL _ _ _ _ _ _ _ _ _ (World.drew _);refine Yp 0 HS.out ?_;refine Yp 1 HS.out ?_;refine Yp 2 HS.out ?_;refine Yp 3 HS.out ?_;refine Yp 4 HS.out ?_;refine Yt 5 rfl (fun w9 hE=>by have hcE:=hE.cell hc; clear hE; first | (go_simp; done) | (go_simp; with_reducible rfl)) HS.out ?_;refine Yp 6 HS.out ?_;refine Yp 7 HS.out ?_;refine Yp 8 HS.out ?_;refine Yp 9 HS.out ?_;refine Yp 10 HS.out ?_;refine Yp 11 HS.out ?_;refine wpL_only (i:=12) rfl (by kernel_rfl) (fun K hK=>?_);go_simp;refine hK _ _ (fun h=>Bool.noConfusion ((show early _ _=false by kernel_rfl).symm.trans h)) ?_; clear hK K;refine wpL_done (by kernel_rfl) ?_;go_wp2
 go_end0
 exact ⟨⟨_,rfl⟩,rfl⟩
end
end Go.Proofs.YtjffkeoajkhbmaaGreat
