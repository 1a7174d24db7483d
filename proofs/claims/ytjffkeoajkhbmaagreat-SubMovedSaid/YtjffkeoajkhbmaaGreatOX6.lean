/- types.Check. slices.AppendSeq over whatever yields numbers. types.refs: what a type refers to, yielded. -/
import Derived.RangeFuncBox
import Derived.RangeFuncNested
import Derived.RangeFuncCalls
import Derived.RangeFuncLeaves
import Derived.Shelf.RegionOpen
import Derived.OwnWalkIn
import Derived.TacticsInMore
import Derived.LoopNIn
import Derived.LoopIn
import Derived.Sort.CutIn
import Derived.Test.YtjffkeoajkhbmaaGreatOX5
namespace Go.Proofs.YtjffkeoajkhbmaaGreat
set_option linter.unusedSimpArgs false
set_option linter.unusedVariables false
set_option maxRecDepth 100000
set_option maxHeartbeats 8000000
section
open Go.RowKit Go.Proofs
theorem hasSuper75 (k:Int) (w:World):Calls Tryz.prog 75 #[.int .u8 k] w fun e w'=>e=.returned (.bool (hasSuperB k))/\w'=w:=by
 go_enter Tryz.func75,Tryz.ntmps75
 go_wp2
 all_goals go_ret
 all_goals refine ⟨ret_bool ?_,rfl⟩
 all_goals simp [hasSuperB, *]
theorem find_some {n k:Nat} {p:Nat->Bool} (hk:k<n) (h1:p k=true) (h:∀ i,i<k->p i=false):(List.range n).find? p=some k:=by
 rw [List.find?_range_eq_some];exact ⟨h1,by simpa using hk,fun j hj=>by simp [h j hj]⟩
theorem find_none {n:Nat} {p:Nat->Bool} (h:∀ i,i<n->p i=false):(List.range n).find? p=none:=by
 rw [List.find?_eq_none];intro x hx;rw [h x (List.mem_range.1 hx)];simp
theorem right_super {g:List Ty} {x:Ty} (h:rightB g x=true) (hs:hasSuperB x.kind=true):0<=x.super/\x.super<g.length:=by
 unfold hasSuperB at hs;simp only [Bool.or_eq_true,beq_iff_eq] at hs;have ho:hasI g.length x.super=true:=by
  unfold rightB at h;rcases hs with hk | hk
  ·simp only [hk] at h;simp [objectsB,objectB,overB] at h
   grind
  ·simp only [hk] at h;simp [opqB,overB] at h
   grind
 unfold hasI at ho;simp at ho;exact ho
theorem check41 (a:Option Addr) (n c:Nat) (g:List Ty) (w:World) (hg:Graph w (.slice a n c) g) :
  Calls Tryz.prog 41 #[.slice a n c] w fun e w'=>e=.returned (.tuple #[.int .i64 (checkB g).1,.int .i64 (checkB g).2])/\Ext w w':=by
 have hb:=(SlW.bound hg).2;obtain rfl:=SlW.len hg;by_cases h4:400<g.length
 ·have hs:=dh (show checkB g=(400,30) by unfold checkB; rw [if_pos h4]);have h4i:(400:Int)<g.length:=by omega
  go_enter Tryz.func41,Tryz.ntmps41
  go_wp2_with fail;go_ret2;exact ⟨by rw [hs.out]; rfl,by (repeat (first | exact Ext.refl _ | (refine Ext.trans ?_ (Hid.out (by assumption))) | (refine Ext.trans ?_ (Ext.alloc _ _)) | (refine Ext.trans ?_ (Ext.drew _)) | (refine below_drewN ?_ _)))⟩
 have hend1:=dh (show ∀ k:Nat,k<g.length->rightB g (nth g k)=false->(∀ i,i<k->rightB g (nth g i)=true)->checkB g=(k,30) from fun k hk h1 h2=>by
  unfold checkB; rw [if_neg h4,find_some hk (by rw [h1]; rfl) (fun i hi=>by rw [h2 i hi]; rfl)])
 have hend2:=dh (show ∀ k:Nat,k<g.length->(∀ i,i<g.length->rightB g (nth g i)=true)->ringB g k g.length k=true->(∀ i,i<k->ringB g i g.length i=false)->checkB g=(k,30) from fun k hk h1 h2 h3=>by
  unfold checkB; rw [if_neg h4,find_none (fun i hi=>by rw [h1 i hi]; rfl)]; dsimp only; rw [find_some (p:=fun i=>ringB g i g.length i) hk h2 h3])
 have hend3:=dh (show (∀ i,i<g.length->rightB g (nth g i)=true)->(∀ i,i<g.length->ringB g i g.length i=false)->checkB g=(0,0) from fun h1 h3=>by
  unfold checkB; rw [if_neg h4,find_none (fun i hi=>by rw [h1 i hi]; rfl)]; dsimp only; rw [find_none (p:=fun i=>ringB g i g.length i) h3])
 have Hg:=dh hg; clear hg
 go_enter Tryz.func41,Tryz.ntmps41
 go_upto_region 5 with (fail);obtain ⟨W,hW⟩:∃ W:World,W=w.alloc (.cells #[.slice a g.length c] 118):=⟨_,rfl⟩;have hE0:Ext w W:=by rw [hW]; exact Ext.alloc _ _
 have hb0:W.cell? ⟨w.heap.size,0,none⟩=some (.slice a g.length c):=by rw [hW]; exact cell_new1 _ _ _
 have Hgw:=dh (Graph.mono hE0 Hg.out);rw [<- hW];clear hW;go_loopw [5,6,16] (fun _ _ i wr=>∃ k:Nat,k<=g.length/\i=.int .i64 k/\Hid (Ext W wr/\∀ j,j<k->rightB g (nth g j)=true)) (fun _ _ i _=>g.length-(intOf i).toNat)
 case atStart=>exact ⟨0,Nat.zero_le _,rfl,Ext.refl _,fun j hj=>absurd hj (Nat.not_lt_zero _)⟩
 case round =>
  obtain ⟨k,hk,rfl,hH⟩:=hrel;obtain ⟨hE,hall⟩:=hH.out;clear hH;by_cases hlt:k<g.length
  ·have hg1:=Graph.mono hE Hgw.out;have hb1:=hE.cell hb0;have hl1:w.heap.size<wr.heap.size:=cell_lt hb1;have HE:=dh hE; clear hE;have Hall:=dh hall; clear hall;obtain ⟨b,off,pa,pl,pc,ma,ml,mc,oa,ol,oc,rfl,hlt2,hT⟩:=Graph.at hg1 hlt;obtain ⟨c0,c1,c2,c3,c4,c5,c6,c7,c8,c9,hps,hms,hos,hok⟩:=hT;clear hb0;go_wp2_with fail;have hE6:Ext wr (wr.alloc (.cells #[.int .u8 (nth g k).kind,.int .i64 (nth g k).low,.int .i64 (nth g k).high,.bool (nth g k).branded,.string (nth g k).brand,.string (nth g k).opq,.int .i64 (nth g k).super,.slice pa pl pc,.slice ma ml mc,.slice oa ol oc] 50)):=Ext.alloc _ _;refine (right74 _ _ c g (nth g k) pa pl pc ma ml mc oa ol oc _ (Graph.mono hE6 hg1) (Parts.mono hE6 hps) (Meths.mono hE6 hms) (Overs.mono hE6 hos) hok).mono ?_;rintro e w2 ⟨rfl,hE⟩;have HE2:=dh (HE.out.trans (hE6.trans hE));clear hE hE6 c0 c1 c2 c3 c4 c5 c6 c7 c8 c9 hps hms hos hg1;cases hr:rightB g (nth g k)
   ·have hh:=dh (hend1.out k hlt hr Hall.out);go_wp2_with fail;go_ret2;exact ⟨by rw [hh.out]; rfl,hE0.trans HE2.out⟩
   ·have hr':=dh hr;clear hr;go_wp2_with fail;go_roundw
    case rel =>
     refine ⟨k+1,by omega,by go_num,HE2.out,fun j hj=>?_⟩;by_cases hjk:j=k
     ·rw [hjk]; exact hr'.out
     ·exact Hall.out j (by omega)
    case measure=>simp [intOf]; omega
  ·have:k=g.length:=by omega
   subst this;have HE:=dh hE; clear hE;have Hall:=dh hall; clear hall;go_upto_region 11 with (fail);have hE0':=dh (hE0.trans HE.out);have Hg2:=dh (Graph.mono HE.out Hgw.out);clear hE0 hb0;go_loopw [7,8,29] (fun _ _ i wx=>∃ k:Nat,k<=g.length/\i=.int .i64 k/\wx=wr/\Hid (∀ j,j<k->ringB g j g.length j=false)) (fun _ _ i _=>g.length-(intOf i).toNat)
   case atStart=>exact ⟨0,Nat.zero_le _,rfl,rfl,fun j hj=>absurd hj (Nat.not_lt_zero _)⟩
   case round =>
    obtain ⟨k,hk,rfl,rfl,Hr⟩:=hrel;by_cases hlt:k<g.length
    ·go_upto_region 15 with (fail);go_loopw [8,35] (fun at_ i wx=>∃ d j:Nat,d<=g.length/\j<g.length/\at_=.int .i64 j/\i=.int .i64 d/\wx=wr/\Hid (ringB g k g.length k=ringB g k (g.length-d) j)) (fun _ i _=>g.length-(intOf i).toNat)
     case atStart=>exact ⟨0,k,Nat.zero_le _,hlt,rfl,rfl,rfl,rfl⟩
     case round =>
      obtain ⟨d,j,hd,hj,rfl,rfl,rfl,Hq⟩:=hrel;by_cases hdl:d<g.length
      ·obtain ⟨b,off,pa,pl,pc,ma,ml,mc,oa,ol,oc,hoff,hlt2,hT⟩:=Graph.at Hg2.out hj;obtain ⟨c0,c1,c2,c3,c4,c5,c6,c7,c8,c9,hps,hms,hos,hok⟩:=hT;have hs0:=hok.s0;have hs1:=hok.s1;clear c1 c2 c3 c4 c5 c7 c8 c9 hps hms hos hok;subst hoff;obtain ⟨m,hm⟩:∃ m,g.length-d=m+1:=⟨g.length-d-1,by omega⟩;cases hhs:hasSuperB (nth g j).kind
       ·have hno:=dh (show ringB g k g.length k=false by rw [Hq.out,hm]; unfold ringB; rw [hhs]; rfl);clear hm;have harm:=dh (fun w=>hasSuper75 (nth g j).kind w);rw [hhs] at harm;clear hhs;go_wp2_with fail;refine (harm.out _).mono ?_;rintro e w2 ⟨rfl,rfl⟩;go_wp2_with fail;go_roundw
        case rel => 
         refine ⟨k+1,by omega,by go_num,trivial,fun j hj=>?_⟩;by_cases hjk:j=k
         ·rw [hjk]; exact hno.out
         ·exact Hr.out j (by omega)
        case measure=>simp [intOf]; omega
       ·obtain ⟨hs2,hs3⟩:=right_super (Hall.out j hj) hhs;obtain ⟨s,hs⟩:∃ s:Nat,(nth g j).super=s:=⟨(nth g j).super.toNat,(Int.toNat_of_nonneg hs2).symm⟩;have hring:=dh (show ringB g k (g.length-d) j=if s=k then true else ringB g k m s by
         rw [hm]; conv=>lhs; unfold ringB
         rw [hhs,hs,Int.toNat_natCast]; rfl)
        rw [hs] at c6;have hsl:s<g.length:=by omega
        clear hs hs0 hs1 hs2 hs3;have harm:=dh (fun w=>hasSuper75 (nth g j).kind w);rw [hhs] at harm;clear hhs;by_cases hsk:s=k
        ·have hyes:=dh (hend2.out k hlt Hall.out (by rw [Hq.out,hring.out,if_pos hsk]) Hr.out);subst hsk;clear hm;go_wp2_with fail;refine (harm.out _).mono ?_;rintro e w2 ⟨rfl,rfl⟩;go_wp2_with fail;go_ret2;exact ⟨by rw [hyes.out]; rfl,hE0'.out⟩
        ·have hno:=dh (show ringB g k g.length k=ringB g k (g.length-(d+1)) s by
          rw [Hq.out,hring.out,if_neg hsk,show g.length-(d+1)=m by omega])
         have hskb:((s:Int)==(k:Int))=false:=by rw [beq_eq_false_iff_ne]; omega
         clear hm hsk;go_wp2_with fail;refine (harm.out _).mono ?_;rintro e w2 ⟨rfl,rfl⟩;go_wp2_with fail;go_roundw
         case rel=>exact ⟨d+1,s,by omega,hsl,rfl,by go_num,trivial,hno⟩
         case measure=>simp [intOf]; omega
      ·have hdn:d=g.length:=by omega
       subst hdn;have hno:=dh (show ringB g k g.length k=false by rw [Hq.out,Nat.sub_self]; rfl);go_wp2_with fail;go_roundw
       case rel => 
        refine ⟨k+1,by omega,by go_num,trivial,fun j hj=>?_⟩;by_cases hjk:j=k
        ·rw [hjk]; exact hno.out
        ·exact Hr.out j (by omega)
       case measure=>simp [intOf]; omega
    ·have:k=g.length:=by omega
     subst this;have hh:=dh (hend3.out Hall.out Hr.out);go_wp2_with fail;go_ret2;exact ⟨by rw [hh.out]; rfl,hE0'.out⟩
end
section
open Go.RowKit Go.Proofs Go.Shelf
attribute [local go_sem] Oper.semAt_some
def Keep (T:TypeId) (W W':World):Prop:=∀ (j:Nat) (cs:Array Value) (p:Nat × Nat),W.heap[j]? = some (Obj.cells cs T p)->W'.heap[j]? = some (Obj.cells cs T p)
theorem Keep.trans {T:TypeId} {A B C:World} (h:Keep T A B) (k:Keep T B C):Keep T A C:=fun j cs p e=>k j cs p (h j cs p e)
theorem Keep.of_grownBy {T:TypeId} {W W':World} {row:Option Nat} (hg:W.grownBy W' row) (hn:∀ j cs p,row=some j->W.heap[j]? ≠ some (Obj.cells cs T p)):Keep T W W' :=
 fun j cs p e=>(hg.block j (Array.getElem?_eq_some_iff.1 e).1 (fun h=>hn j cs p h.symm e)).trans e
theorem Keep.alloc (T:TypeId) (W:World) (o:Obj):Keep T W (W.alloc o):=Keep.of_grownBy (World.grownBy_alloc W o none) (fun _ _ _ h=>by cases h)
theorem Keep.put {T:TypeId} {W:World} {l:Nat} {o:Obj} (o':Obj) (h:W.heap[l]? = some o) (ho:o.isCells=false):Keep T W (W.putObj l o') :=
 Keep.of_grownBy (grownBy_putObj' W l o') (fun j cs p e h'=>by cases e; rw [h] at h'; cases h'; cases ho)
def KeepB (n:Nat) (T:TypeId) (W W':World):Prop:=Below n W W'/\Keep T W W'
theorem keepB_t {n:Nat} {T:TypeId} {A B C:World} (h:KeepB n T A B) (k:KeepB n T B C):KeepB n T A C:=⟨h.1.trans k.1,h.2.trans k.2⟩
theorem keepB_b {n:Nat} {T:TypeId} {w:World} (hn:n<=w.heap.size) (W:World) (l:Nat) (o o':Obj) (hl:w.heap.size<=l) (h:W.heap[l]? = some o) (ho:o.isCells=false) (hw:o.isWalk=false):KeepB n T W (W.putObj l o') :=
 ⟨belowK_b hn W l o o' hl h ho hw,Keep.put o' h ho⟩
theorem ownsRow_typed {W:World} {base:Nat} {e T:TypeId} {size:Nat} {v:Value} {k:Nat} {xs:List Value} (h:W.ownsRow base e size v k xs) (hT:T≠e):∀ j cs p,v.ownBlock=some j->W.heap[j]? ≠ some (Obj.cells cs T p):=by
 intro j cs p hj hh;rcases h.2 with ⟨rfl,_⟩ | ⟨g,cap,cur,rfl,_,hgb,_⟩
 ·simp [Value.ownBlock] at hj
 ·obtain rfl:g=j:=by simpa [Value.ownBlock] using hj
  rw [hgb] at hh;cases hh;exact hT rfl
theorem boxed_keep {W:World} {B:Nat} {t T:TypeId} {v v':Value} (h:Boxed W B t v) (hT:T≠t):Keep T W (W.setCell ⟨B,0,none⟩ v') :=
 Keep.of_grownBy (grownBy_setCell' W B v') (fun j cs p e hh=>by cases e; rw [show W.heap[B]? = _ from h] at hh; cases hh; exact hT rfl)
def YieldsInts (w0:World) (gf:Nat) (lb:Array Value) (xs:List Int) (w:World):Prop :=
 ∀ m,SeqStopsK Fence.wide m Tryz.prog gf lb (fun x:Int=>#[Value.int .i64 x]) (KeepB w0.heap.size 88) (fun ys=>ys=xs) (fun pre=>pre <+: xs) xs.length w
theorem appendSeq164 (gf:Nat) (lb:Array Value) (he:∀ args w,(callFunc gf args).run Tryz.prog w=.ok (.enter gf args) w) (xs:List Int) (hlen:xs.length<=100000) (w0 w:World) (hE0:Ext w0 w) (hseq:YieldsInts w0 gf lb xs w) :
  Calls Tryz.prog 164 #[.slice none 0 0,.func (.func gf) #[] lb] w fun e w'=>∃ v,e=.returned v/\w'.ownsRow w.heap.size 3 1 v xs.length (xs.map (Value.int .i64))/\Ext w w':=by
 refine (callsIn_wide (n:=3)).1 ?_;obtain ⟨i0,hi,hz0,hz1,hz2⟩:=info_parts info3;refine callsIn_of_wp_marks Tryz.func164 rfl trivial ?_ rfl;simp only [Tryz.ntmps164,List.size_toArray,List.length_cons,List.length_nil,Nat.reduceAdd,Nat.reduceSub,Array.replicate_succ,Array.replicate_zero,List.push_toArray,List.append_toArray,List.nil_append,List.cons_append];gi_wp2;have bO:=Boxed.new w 35 (.slice none 0 0);have hB0:Below w.heap.size w (w.alloc (.cells #[.slice none 0 0] 35)):=(Below.refl _ w).alloc (Nat.le_refl _) _;have hsz0:w0.heap.size<=w.heap.size:=hE0.size;have hlen2:xs.length<=maxLen:=Nat.le_trans hlen (by decide);have hbytes:xs.length*8<=140737488355328:=by omega
 refine wpIn_rangeFunc_ownG (F:=Fence.wide) rfl (by omega) (gf:=gf) (lb:=lb) rfl trivial he (hseq _) keepB_t (keepB_b (by simp; omega)) hB0 (fun _=>rfl)
  (fun (pre:List Int) W=>(∃ v,Boxed W w.heap.size 35 v/\W.ownsRow w.heap.size 3 1 v pre.length (pre.map (Value.int .i64))/\True)/\Below w.heap.size w W)
  (fun _ _ _=>False)
  (OwnFrom.and (Own.from (holdsRow_own w.heap.size w.heap.size 35 3 1 (fun (pre:List Int)=>pre.length) (fun (pre:List Int)=>pre.map (Value.int .i64)) (fun _ _=>True)) _) (ownFrom_below (Nat.le_refl _) (by simp)))
  (fun _ _ _ _ _ hs _ _=>hs)
  ⟨⟨_,bO,World.ownsRow_nil _ _ _ _,trivial⟩,hB0⟩
  (fun (x:Int)=>{ tmps:=#[.slice none 0 0,.func (.func gf) #[] lb,.pointer (some ⟨w.heap.size,0,none⟩),undef,.slice none 0 0,.int .i64 x,.func (.func gf) #[] lb,.int .i64 x,undef,undef,undef,undef,undef],defers:=[] }) ?assign ?body ?done ?stop
 case assign =>
  intro l x W K hK;gi_wp2;exact hK
 case body =>
  rintro l pre x W ⟨⟨v,hv,hrow,_⟩,hB⟩ hlt;have hc:=hv.cell;gi_wp2_with (gi_at_builtin; refine wpListIn_append_own _ rfl _ _ 35 rfl w.heap.size 3 i0 (.int .i64 0) 1 8 Tryz.underlying35 hi hz0 hz1 hz2 rfl (by decide) _ _ _ rfl (hrow.alloc _) ⟨W.heap.size,0,none⟩ 1 1 [.int .i64 x] rfl rfl (cell_one_new _ _ _) (by simp [Value.oneCell']) (by omega) (by omega) (by have:=hB.size; simp; omega) ?_; intro v' w1 hown' hgrow _; have HG:=dh hgrow; obtain ⟨g',cap',rfl⟩:=ownsRow_succ hown'; obtain ⟨hv1,hv2,hr2,hk2,hb2⟩:=hv.appended (by decide) hrow hB.size (Nat.le_refl _) hown' hgrow; have hc1:=hv1.cell; have hf1:=hv1.frozen);have hgrow:=HG.out;exact ⟨hk2.from _,⟨hb2.mono hsz0,((Keep.alloc 88 W _).trans (Keep.of_grownBy hgrow (ownsRow_typed (hrow.alloc _) (by decide)))).trans (boxed_keep hv1 (by decide))⟩,⟨_,hv2,by simpa using hr2,trivial⟩,hB.trans hb2⟩
 case done =>
  rintro D ys W hD rfl ⟨⟨v,hv,hrow,_⟩,hB⟩ hK;have hc:=hv.cell;gi_wp2;refine ⟨by simp,.inl ⟨_,_,rfl,run_takeDeferred hK,?_⟩⟩;exact ⟨_,results_tmp rfl _ _ _,v,rfl,ownsRow_putObj hrow _ hK rfl,hB.trans (belowK_b (w:=w) (Nat.le_refl _) W D _ _ (by simp at hD; omega) hK rfl rfl)⟩
 case stop =>
  rintro D c pre W _ _ h _;exact h.elim
end
section
open Go.RowKit Go.Proofs Go.Shelf
attribute [local go_sem] Oper.semAt_some
def supersOf (x:Ty):List Int:=if hasSuperB x.kind then [x.super] else []
def methRefs (m:Meth):List Int:=m.sig.args++(if 0<=m.sig.result then [m.sig.result] else [])
theorem refsOf_eq (x:Ty):refsOf x=supersOf x++x.parts.map (·.type)++(x.methods.map methRefs).flatten:=rfl
theorem pre_lt {α:Type} {pre xs:List α} {x:α} (h:pre++[x] <+: xs):pre.length<xs.length:=by
 have:=h.length_le;simp at this;omega
theorem take_snoc_map {α β:Type} [Inhabited α] {xs:List α} (f:α->β) {k:Nat} (h:k<xs.length):(xs.map f).take (k+1)=(xs.map f).take k++[f (nth xs k)]:=by
 rw [List.take_succ_eq_append_getElem (by simpa using h),nth_eq h]; simp
theorem refs_parts (x:Ty) {k:Nat} (h:k<x.parts.length):(supersOf x++(x.parts.map (·.type)).take k)++[(nth x.parts k).type] <+: refsOf x:=by
 rw [refsOf_eq,List.append_assoc,<- take_snoc_map (·.type) h,List.append_assoc];exact (List.prefix_append_right_inj _).2 ((List.take_prefix _ _).trans (List.prefix_append _ _))
def refsUpTo (x:Ty) (k:Nat):List Int:=supersOf x++x.parts.map (·.type)++((x.methods.take k).map methRefs).flatten
theorem refsUpTo_succ (x:Ty) {k:Nat} (h:k<x.methods.length):refsUpTo x (k+1)=refsUpTo x k++methRefs (nth x.methods k):=by
 unfold refsUpTo;rw [take_snoc h,List.map_append,List.flatten_append];simp
theorem refsUpTo_all (x:Ty):refsUpTo x x.methods.length=refsOf x:=by
 unfold refsUpTo;rw [List.take_length,refsOf_eq]
theorem refsUpTo_prefix (x:Ty) (k:Nat):refsUpTo x k <+: refsOf x:=by
 unfold refsUpTo;rw [refsOf_eq];refine (List.prefix_append_right_inj _).2 ?_
 conv=>rhs; rw [<- List.take_append_drop k x.methods,List.map_append,List.flatten_append]
 exact List.prefix_append _ _
theorem refs_args (x:Ty) {k d:Nat} (h:k<x.methods.length) (hd:d<(nth x.methods k).sig.args.length) :
  (refsUpTo x k++(nth x.methods k).sig.args.take d)++[nth (nth x.methods k).sig.args d] <+: refsOf x:=by
 refine List.IsPrefix.trans ?_ (refsUpTo_prefix x (k+1));rw [refsUpTo_succ x h,List.append_assoc,<- take_snoc hd];exact (List.prefix_append_right_inj _).2 ((List.take_prefix _ _).trans (List.prefix_append _ _))
theorem refs_result (x:Ty) {k:Nat} (h:k<x.methods.length) (hr:0<=(nth x.methods k).sig.result) :
  (refsUpTo x k++(nth x.methods k).sig.args)++[(nth x.methods k).sig.result]=refsUpTo x (k+1):=by
 rw [refsUpTo_succ x h,methRefs,if_pos hr,List.append_assoc]
theorem refs_noResult (x:Ty) {k:Nat} (h:k<x.methods.length) (hr:¬ 0<=(nth x.methods k).sig.result) :
  refsUpTo x k++(nth x.methods k).sig.args=refsUpTo x (k+1):=by
 rw [refsUpTo_succ x h,methRefs,if_neg hr,List.append_nil]
theorem cell_of_heap {w:World} {b:Nat} {cs:Array Value} {T:TypeId} (h:w.heap[b]? = some (.cells cs T (0,0))) {j:Nat} {v:Value} (hj:cs[j]? = some v):w.cell? ⟨b,j,none⟩=some v:=by
 unfold World.cell?;rw [show w.heap[(⟨b,j,none⟩:Addr).block]? = some (.cells cs T (0,0)) from h];exact hj
theorem refs165 (w0 w:World) (hE:Ext w0 w) (bx:Nat) (x:Ty) (pa:Option Addr) (pl pc:Nat) (ma:Option Addr) (ml mc:Nat) (ov:Value) (hx:Box w0 bx x (.slice pa pl pc) (.slice ma ml mc) ov)
  (hp:Parts w0 (.slice pa pl pc) x.parts) (hm:Meths w0 (.slice ma ml mc) x.methods):YieldsInts w0 165 #[.pointer (some ⟨bx,0,none⟩)] (refsOf x) w:=by
 intro m l J Jx W hW hJ hJx hY h0;have hEW:Ext w0 W:=hE.trans hW;have hY2:=dh (show ∀ pre y W1,(pre++[y] <+: refsOf x)->J pre W1->Ext w0 W1->∃ fn tmps assign body,(Instr.yield l #[.int .i64 y]).run Tryz.prog W1=.ok (.round l fn tmps assign body) W1 /\
   RoundIn Fence.wide (m-1) Tryz.prog l fn tmps assign body W1 (fun e W'=>(e=.returned (.bool true)/\Hid (J (pre++[y]) W'/\Ext w0 W'/\Keep 88 W1 W'))\/(e=.returned (.bool false)/\Hid (Jx (pre++[y]) W'))) from
  fun pre y W1 h1 h2 h3=>by
   obtain ⟨fn,tmps,assign,body,hy,hR⟩:=hY pre y W1 h2 (pre_lt h1);refine ⟨fn,tmps,assign,body,hy,hR.mono ?_⟩;rintro e W' (⟨rfl,a,b⟩ | ⟨rfl,a⟩)
   ·exact Or.inl ⟨rfl,a,Below.trans h3 b.1,b.2⟩
   ·exact Or.inr ⟨rfl,a⟩)
 clear hY;have hJa:=dh (show ∀ pre W1 o,J pre W1->J pre (W1.alloc o) from fun pre W1 o h=>hJ pre W1 _ none h (World.grownBy_alloc W1 o none) (fun r e=>by cases e));clear hJ hJx;refine callsIn_of_wp Tryz.func165 rfl trivial ?_ rfl;simp only [Tryz.ntmps165,List.size_toArray,List.length_cons,List.length_nil,Nat.reduceAdd,Nat.reduceSub,Array.replicate_succ,Array.replicate_zero,List.push_toArray,List.append_toArray,List.nil_append,List.cons_append];have hx1:=hx.ext hEW;have c0:=hx1.cell (j:=0) rfl;have c6:=hx1.cell (j:=6) rfl;have H0:=dh h0; clear h0;have HEW:=dh hEW; clear hEW;have hpb:=(SlW.bound hp).2;have hmb:=(SlW.bound hm).2;obtain rfl:=SlW.len hp;obtain rfl:=SlW.len hm;have Hp:=dh hp; clear hp;have Hm:=dh hm; clear hm;have Hx:=dh hx; clear hx hx1
 gi_upto_region 0 with (fail)
 gi_cut [18] from 65 (fun v wx=>(v=.bool false/\Hid (J (supersOf x) wx/\Ext w0 wx))\/(v=.bool true/\Hid (∃ pre,pre <+: refsOf x/\Jx pre wx)))
 case first =>
  gi_wp2_with fail;refine ⟨trivial,fun h=>(by cases h),callsIn_wide.2 ((hasSuper75 _ _).mono ?_)⟩;rintro e w2 ⟨rfl,rfl⟩;cases hs:hasSuperB x.kind
  ·have hsup:=dh (show supersOf x=[] by unfold supersOf; rw [hs]; rfl);have H1:Hid (J (supersOf x) w2):=by rw [hsup.out]; exact H0
   gi_wp2_with fail;refine ⟨fun _ h=>(by cases h),?_⟩;gi_wp2_with fail
   gi_meet
   exact Or.inl ⟨rfl,H1.out,HEW.out⟩
  ·have hsup:=dh (show supersOf x=[x.super] by unfold supersOf; rw [hs]; rfl);obtain ⟨fn,tmps,assign,body,hy,hR⟩:=hY2.out [] x.super w2 (by rw [refsOf_eq,hsup.out]; simp) H0.out HEW.out;gi_wp2_with fail;refine ⟨fun h=>(by cases h),hR.mono ?_⟩;rintro e W3 (⟨rfl,hH⟩ | ⟨rfl,hJx⟩)
   ·gi_wp2_with fail
    gi_meet
    exact Or.inl ⟨rfl,by rw [hsup.out]; exact hH.out.1,hH.out.2.1⟩
   ·gi_wp2_with fail
    gi_meet
    exact Or.inr ⟨rfl,[x.super],by rw [refsOf_eq,hsup.out]; simp,hJx.out⟩
 case rest =>
  rcases hcut with ⟨rfl,hH⟩ | ⟨rfl,hH⟩
  rotate_left
  ·gi_wp2_with fail;refine bodyPost_ret (results_none rfl _ _ _) rfl ?_;exact ⟨⟨_,rfl⟩,.inr hH.out⟩
  have HE1:=dh hH.out.2;have H1:=dh hH.out.1;clear hH H0 HEW c0 c6;have c7:=(Hx.out.ext HE1.out).cell (j:=7) rfl
  gi_upto_region 2 with (fail)
  gi_loopw [4,22] (fun _ i wr=>∃ k:Nat,k<=x.parts.length/\i=.int .i64 k/\Hid (J (supersOf x++(x.parts.map (·.type)).take k) wr/\Ext w0 wr)) (fun _ i _=>x.parts.length-(intOf i).toNat)
  case atStart=>exact ⟨0,Nat.zero_le _,rfl,by simpa using H1.out,HE1.out⟩
  case round =>
   obtain ⟨k,hk,rfl,hH⟩:=hrel;have HE2:=dh hH.out.2;have H2:=dh hH.out.1;clear hH;by_cases hlt:k<x.parts.length
   ·have hpk:=Parts.mono HE2.out Hp.out;obtain ⟨b,off,rfl,hlt2,d0,d1,_⟩:=Parts.at hpk hlt;clear hpk;have H3:=dh (hJa.out _ wr (.cells #[.string (nth x.parts k).name,.int .i64 (nth x.parts k).type] 83) H2.out);obtain ⟨fn,tmps,assign,body,hy,hR⟩:=hY2.out _ (nth x.parts k).type _ (refs_parts x hlt) H3.out (HE2.out.trans (Ext.alloc _ _));gi_wp2_with fail;refine ⟨fun h=>(by cases h),hR.mono ?_⟩;rintro e W3 (⟨rfl,hH⟩ | ⟨rfl,hJx⟩)
    ·gi_wp2_with fail;go_roundw
     case rel=>exact ⟨k+1,by omega,by go_num,by rw [take_snoc_map (·.type) hlt,<- List.append_assoc]; exact hH.out.1,hH.out.2.1⟩
     case measure=>simp [intOf]; omega
    ·gi_wp2_with fail;refine bodyPost_ret (results_none rfl _ _ _) rfl ?_;exact ⟨⟨_,rfl⟩,.inr ⟨_,refs_parts x hlt,hJx.out⟩⟩
   ·have:k=x.parts.length:=by omega
    subst this;have c8:=(Hx.out.ext HE2.out).cell (j:=8) rfl
    gi_upto_region 7 with (fail)
    gi_loopw [6,8,35] (fun _ _ i wx=>∃ k:Nat,k<=x.methods.length/\i=.int .i64 k/\Hid (J (refsUpTo x k) wx/\Ext w0 wx)) (fun _ _ i _=>x.methods.length-(intOf i).toNat)
    case atStart=>exact ⟨0,Nat.zero_le _,rfl,by have:=H2.out; rw [List.take_of_length_le (by simp)] at this; simpa [refsUpTo] using this,HE2.out⟩
    case round =>
     clear H1 H2 HE2 c8;obtain ⟨k,hk,rfl,hH⟩:=hrel;have HE2:=dh hH.out.2;have H2:=dh hH.out.1;clear hH;by_cases hlt:k<x.methods.length
     ·
      obtain ⟨b,off,aa,al,ac,ra,rl,rc,hoff,hlt2,d0,d1,d2,d3,d4,ha,hr,hr0,hr1,_⟩:=Meths.at Hm.out hlt;clear hr;have d0:=HE2.out.cell d0;have d1:=HE2.out.cell d1;have d2:=HE2.out.cell d2;have d3:=HE2.out.cell d3;have d4:=HE2.out.cell d4;have hlt2:=cell_lt d0;simp only at hlt2;subst hoff
      gi_upto_region 10 with (fail)
      have hab:=(SlW.bound ha).2;obtain rfl:=SlW.len ha;obtain ⟨W8,hW8⟩:∃ W8:World,W8=wr.alloc (.cells #[.string (nth x.methods k).name,.slice aa (nth x.methods k).sig.args.length ac,.int .i64 (nth x.methods k).sig.result,.slice ra rl rc,.string (nth x.methods k).proc] 88):=⟨_,rfl⟩;rw [<- hW8];have hE8:Ext wr W8:=by rw [hW8]; exact Ext.alloc _ _
      have hb8:W8.heap[wr.heap.size]? = some (.cells #[.string (nth x.methods k).name,.slice aa (nth x.methods k).sig.args.length ac,.int .i64 (nth x.methods k).sig.result,.slice ra rl rc,.string (nth x.methods k).proc] 88 (0,0)):=by rw [hW8]; exact heap_alloc_new _ _
      have H8:Hid (J (refsUpTo x k) W8):=by rw [hW8]; exact hJa.out _ _ _ H2.out
      clear hW8 d0 d1 d2 d3 d4;have HE8:=dh (HE2.out.trans hE8);have Ha:=dh ha;clear hE8 ha H2 HE2;obtain ⟨b8,h8⟩:∃ b8,b8=wr.heap.size:=⟨_,rfl⟩;rw [<- h8] at hb8 ⊢;clear h8;have Hb8:=dh hb8; clear hb8
      gi_loopw [8,43] (fun _ i wx=>∃ d:Nat,d<=(nth x.methods k).sig.args.length/\i=.int .i64 d/\Hid (J (refsUpTo x k++(nth x.methods k).sig.args.take d) wx/\Ext w0 wx/\wx.heap[b8]? = some (Obj.cells #[.string (nth x.methods k).name,.slice aa (nth x.methods k).sig.args.length ac,.int .i64 (nth x.methods k).sig.result,.slice ra rl rc,.string (nth x.methods k).proc] 88 (0,0)))) (fun _ i _=>(nth x.methods k).sig.args.length-(intOf i).toNat)
      case atStart=>exact ⟨0,Nat.zero_le _,rfl,by simpa using H8.out,HE8.out,Hb8.out⟩
      case round =>
       clear H8 Hb8;obtain ⟨d,hd,rfl,hH⟩:=hrel;have H2:=dh hH.out.1;have HE2:=dh hH.out.2.1;have Hb8:=dh hH.out.2.2;clear hH;by_cases hdl:d<(nth x.methods k).sig.args.length
       ·obtain ⟨fn,tmps,assign,body,hy,hR⟩:=hY2.out _ (nth (nth x.methods k).sig.args d) _ (refs_args x hlt hdl) H2.out HE2.out;obtain ⟨b,off,hoff,hlt3,e0,_⟩:=Ints.at (Ints.mono HE2.out Ha.out) hdl;subst hoff;gi_wp2_with fail;refine ⟨fun h=>(by cases h),hR.mono ?_⟩;rintro e W3 (⟨rfl,hH⟩ | ⟨rfl,hJx⟩)
        ·gi_wp2_with fail;go_roundw
         case rel=>exact ⟨d+1,by omega,by go_num,by rw [take_snoc hdl,<- List.append_assoc]; exact hH.out.1,hH.out.2.1,hH.out.2.2 _ _ _ Hb8.out⟩
         case measure=>simp [intOf]; omega
        ·gi_wp2_with fail;refine bodyPost_ret (results_none rfl _ _ _) rfl ?_;exact ⟨⟨_,rfl⟩,.inr ⟨_,refs_args x hlt hdl,hJx.out⟩⟩
       ·have:d=(nth x.methods k).sig.args.length:=by omega
        subst this;have e2:=cell_of_heap Hb8.out (j:=2) rfl;have H3:Hid (J (refsUpTo x k++(nth x.methods k).sig.args) wr):=by have:=H2.out; rw [List.take_length] at this; exact this
        by_cases hr2:0<=(nth x.methods k).sig.result
        ·obtain ⟨fn,tmps,assign,body,hy,hR⟩:=hY2.out _ (nth x.methods k).sig.result _ (by rw [refs_result x hlt hr2]; exact refsUpTo_prefix _ _) H3.out HE2.out;gi_wp2_with fail;refine ⟨fun h=>(by cases h),hR.mono ?_⟩;rintro e W3 (⟨rfl,hH⟩ | ⟨rfl,hJx⟩)
         ·gi_wp2_with fail;go_roundw
          case rel=>exact ⟨k+1,by omega,by go_num,by rw [<- refs_result x hlt hr2]; exact hH.out.1,hH.out.2.1⟩
          case measure=>simp [intOf]; omega
         ·gi_wp2_with fail;refine bodyPost_ret (results_none rfl _ _ _) rfl ?_;exact ⟨⟨_,rfl⟩,.inr ⟨_,by rw [refs_result x hlt hr2]; exact refsUpTo_prefix _ _,hJx.out⟩⟩
        ·have H4:Hid (J (refsUpTo x (k+1)) wr):=by rw [<- refs_noResult x hlt hr2]; exact H3
         gi_wp2_with fail;refine ⟨fun _ h=>(by cases h),?_⟩;gi_wp2_with fail;go_roundw
         case rel=>exact ⟨k+1,by omega,by go_num,H4.out,HE2.out⟩
         case measure=>simp [intOf]; omega
     ·have:k=x.methods.length:=by omega
      subst this;gi_wp2_with fail
      go_end0
      exact ⟨⟨_,rfl⟩,.inl ⟨_,(refsUpTo_all x),H2.out⟩⟩
end
end Go.Proofs.YtjffkeoajkhbmaaGreat
