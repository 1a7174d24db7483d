/- sub.ups: what one goes up to, yielded. The rule for what is revealed. The rule for what lies below ROOT and ANY. sub.steps: all steps from a type, yielded. -/
import Derived.Test.YtjffkeoajkhbmaaGreatOX0
import Derived.Test.YtjffkeoajkhbmaaGreatOX13
import Derived.Test.YtjffkeoajkhbmaaGreatOX14
namespace Go.Proofs.YtjffkeoajkhbmaaGreat
set_option linter.unusedSimpArgs false
set_option linter.unusedVariables false
set_option maxRecDepth 100000
set_option maxHeartbeats 8000000
section
open Go.RowKit Go.Proofs Go.Shelf
attribute [local go_sem] Oper.semAt_some
theorem upsL_super {g:List Ty} {rs:List Reveal} {t:Nat} (h:hasSuperB (nth g t).kind=true):[(nth g t).super.toNat] <+: upsL g rs t:=by
 unfold upsL; rw [if_pos h]; exact ⟨_,rfl⟩
def upsTo (g:List Ty) (rs:List Reveal) (t k:Nat):List Nat:=(nth g t).super.toNat :: ((byN rs rs.length (nth g t).opq).take k).map fun i=>(nth rs i).type.toNat
theorem upsTo_all {g:List Ty} {rs:List Reveal} {t:Nat} (h:hasSuperB (nth g t).kind=true) (h13:(nth g t).kind=13):upsTo g rs t (byN rs rs.length (nth g t).opq).length=upsL g rs t:=by
 unfold upsL upsTo; rw [if_pos h,if_pos h13,List.take_length]
theorem upsTo_succ {g:List Ty} {rs:List Reveal} {t k:Nat} (hk:k<(byN rs rs.length (nth g t).opq).length):upsTo g rs t (k+1)=upsTo g rs t k++[(nth rs (nth (byN rs rs.length (nth g t).opq) k)).type.toNat]:=by
 unfold upsTo; rw [take_snoc hk]; simp
theorem upsTo_prefix {g:List Ty} {rs:List Reveal} {t k:Nat} (h:hasSuperB (nth g t).kind=true) (h13:(nth g t).kind=13):upsTo g rs t k <+: upsL g rs t:=by
 rw [<- upsTo_all h h13];unfold upsTo;rw [List.take_length];refine (List.prefix_cons_inj _).2 ?_
 conv=>rhs; rw [<- List.take_append_drop k (byN rs rs.length (nth g t).opq),List.map_append]
 exact List.prefix_append _ _
theorem upsL_lt {g:List Ty} {rs:List Reveal} {t:Nat} (hr:rightB g (nth g t)=true) (hrt:∀ i,i<rs.length->0<=(nth rs i).type/\(nth rs i).type<g.length):∀ u,u∈upsL g rs t->u<g.length:=by
 intro u hu;unfold upsL at hu;split at hu
 ·rename_i hs
  have h1:=right_super hr hs;rcases List.mem_cons.1 hu with rfl | hu
  ·omega
  ·split at hu
   ·obtain ⟨i,hi,rfl⟩:=List.mem_map.1 hu;have:=hrt i (byN_lt hi);omega
   ·cases hu
 ·cases hu
theorem upsL_short {g:List Ty} {rs:List Reveal} {t:Nat} (h:hasSuperB (nth g t).kind=true) (h13:(nth g t).kind≠13):upsL g rs t=[(nth g t).super.toNat]:=by
 unfold upsL; rw [if_pos h,if_neg h13]
theorem ups155 (bs vb:Nat) (g:List Ty) (C:Nat->Nat) (rs:List Reveal) (S:List Nat) (gv cv rv av:Value) (mb:Nat) (mm:List (BA × Value)) (w0 w:World) (hv:EnvW w0 vb g C rs S gv cv rv av) (hby:ByAt w0 vb rs mb mm) (hE:Ext w0 w)
  (hr60:rs.length<=60) (t:Nat) (ht:t<g.length) (hr:rightB g (nth g t)=true) (hrt:∀ i,i<rs.length->0<=(nth rs i).type/\(nth rs i).type<g.length) (b1 b2:Nat) (h1:w.heap[b1]? = some (.cells #[.pointer (some ⟨vb,0,none⟩)] 28 (0,0))) (h2:w.heap[b2]? = some (.cells #[.int .i64 t] 3 (0,0))) (hb1:b1≠bs) (hb2:b2≠bs) (m:Nat) :
  SeqStopsK Fence.wide m Tryz.prog 155 #[.pointer (some ⟨b1,0,none⟩),.pointer (some ⟨b2,0,none⟩)] (fun u:{ u:Nat // u<g.length }=>#[.int .i64 ((u.1:Nat):Int)]) (KpF w0.heap.size fun _ j=>j=bs) (fun ys=>ys.map (·.1)=upsL g rs t) (fun pre=>pre.map (·.1) <+: upsL g rs t) (upsL g rs t).length w:=by
 intro l JA JxA W hW hJA hJxA hYA hA0;have hlt:=upsL_lt hr hrt;obtain ⟨J,hJd⟩:∃ J:List Nat->World->Prop,J=fun pre W=>∃ pa:List { u:Nat // u<g.length },pa.map (·.1)=pre/\JA pa W:=⟨_,rfl⟩
 obtain ⟨Jx,hJxd⟩:∃ J:List Nat->World->Prop,J=fun pre W=>∃ pa:List { u:Nat // u<g.length },pa.map (·.1)=pre/\JxA pa W:=⟨_,rfl⟩
 have h0:J [] W:=by rw [hJd]; exact ⟨[],rfl,hA0⟩
 have hJ:∀ pre W1 W2,J pre W1->Ext W1 W2->J pre W2:=by
  intro pre W1 W2 h hE;rw [hJd] at h ⊢;obtain ⟨pa,h1,h2⟩:=h;exact ⟨pa,h1,hJA pa W1 W2 none h2 (grown_of_ext hE) (fun r e=>by cases e)⟩
 have hY:∀ pre y W1,J pre W1->pre++[y] <+: upsL g rs t->YieldAt Fence.wide (m-1) Tryz.prog l #[.int .i64 ((y:Nat):Int)] W1 fun e W' =>
   (e=.returned (.bool true)/\J (pre++[y]) W'/\KpF w0.heap.size (fun _ j=>j=bs) W1 W')\/(e=.returned (.bool false)/\Jx (pre++[y]) W'):=by
  intro pre y W1 h hp;rw [hJd] at h;obtain ⟨pa,h1,h2⟩:=h;have hy:y<g.length:=hlt y (hp.subset (by simp));obtain ⟨fn,tmps,assign,body,hr,hR⟩:=hYA pa ⟨y,hy⟩ W1 h2 (by have:=pre_lt hp; rw [<- h1] at this; simpa using this);refine ⟨fn,tmps,assign,body,hr,hR.mono ?_⟩;rintro e W' (⟨rfl,a,b⟩ | ⟨rfl,a⟩)
  ·exact Or.inl ⟨rfl,by rw [hJd]; exact ⟨_,by simp [h1],a⟩,b⟩
  ·exact Or.inr ⟨rfl,by rw [hJxd]; exact ⟨_,by simp [h1],a⟩⟩
 refine CallsIn.mono (R:=fun e W'=>(∃ v,e=.returned v)/\((∃ xs,xs=upsL g rs t/\J xs W')\/(∃ pre,pre <+: upsL g rs t/\Jx pre W'))) ?_ ?_;rotate_left
 ·rintro e W' ⟨hv,(⟨xs,rfl,h⟩ | ⟨pre,hp,h⟩)⟩
  ·rw [hJd] at h;obtain ⟨pa,h1,h2⟩:=h;exact ⟨hv,Or.inl ⟨pa,h1,h2⟩⟩
  ·rw [hJxd] at h;obtain ⟨pa,h1,h2⟩:=h;exact ⟨hv,Or.inr ⟨pa,(show pa.map (·.1) <+: upsL g rs t by rw [h1]; exact hp),h2⟩⟩
 clear hJA hJxA hYA hA0 hJd hJxd hlt;have hEW:Ext w0 W:=hE.trans hW;have h1:=(hW.block b1 (row_lt h1)).trans h1;have h2:=(hW.block b2 (row_lt h2)).trans h2;obtain ⟨Inv,hInv⟩:∃ Inv:World->Prop,Inv=fun W'=>Ext w0 W'/\W'.heap[b1]? = some (.cells #[.pointer (some ⟨vb,0,none⟩)] 28 (0,0))/\W'.heap[b2]? = some (.cells #[.int .i64 t] 3 (0,0)):=⟨_,rfl⟩
 have HI:=dh (show Inv W by rw [hInv]; exact ⟨hEW,h1,h2⟩);have HIE:=dh (show ∀ A B,Inv A->Ext A B->Inv B from fun A B h hE=>by rw [hInv] at h ⊢; exact ⟨h.1.trans hE,(hE.block b1 (row_lt h.2.1)).trans h.2.1,(hE.block b2 (row_lt h.2.2)).trans h.2.2⟩);have HID:=dh (show ∀ A,Inv A->Ext w0 A/\A.cell? ⟨b1,0,none⟩=some (.pointer (some ⟨vb,0,none⟩))/\A.cell? ⟨b2,0,none⟩=some (.int .i64 t) from fun A h=>by rw [hInv] at h; exact ⟨h.1,row_cell h.2.1 rfl,row_cell h.2.2 rfl⟩);have hY2:=dh (show ∀ pre y W1,(pre++[y] <+: upsL g rs t)->J pre W1->Inv W1->∃ fn tmps assign body,(Instr.yield l #[.int .i64 ((y:Nat):Int)]).run Tryz.prog W1=.ok (.round l fn tmps assign body) W1 /\
   RoundIn Fence.wide (m-1) Tryz.prog l fn tmps assign body W1 (fun e W'=>(e=.returned (.bool true)/\Hid (J (pre++[y]) W'/\Inv W'))\/(e=.returned (.bool false)/\Hid (Jx (pre++[y]) W'))) from
  fun pre y W1 hp h2 h3=>by
   obtain ⟨fn,tmps,assign,body,hy,hR⟩:=hY pre y W1 h2 hp;refine ⟨fn,tmps,assign,body,hy,hR.mono ?_⟩;rintro e W' (⟨rfl,a,b⟩ | ⟨rfl,a⟩)
   ·refine Or.inl ⟨rfl,a,?_⟩;rw [hInv] at h3 ⊢;exact ⟨Below.trans h3.1 b.below,b.cells _ _ _ _ hb1 h3.2.1,b.cells _ _ _ _ hb2 h3.2.2⟩
   ·exact Or.inr ⟨rfl,a⟩)
 have hJa:=dh (show ∀ pre W1 W2,J pre W1->Ext W1 W2->J pre W2 from hJ);have H0:=dh h0;have Hv:=dh hv;have Hby:=dh hby;have Hrt:=dh hrt;clear hrt hY hJ h0 hInv h1 h2 hE hW hEW;obtain ⟨ga,gc,rfl,-⟩:=id hv.gr;obtain ⟨ca,cc,rfl,-⟩:=id hv.cl;obtain ⟨ra,rc,rfl,-⟩:=id hv.re;have hb:=(SlW.bound hv.gr).2;clear hv hby;obtain ⟨cn,hcn⟩:∃ cn,cn=((List.range g.length).map fun i=>(C i:Int)).length:=⟨_,rfl⟩;refine callsIn_of_wp Tryz.func155 rfl trivial ?_ rfl;simp only [Tryz.ntmps155,List.size_toArray,List.length_cons,List.length_nil,Nat.reduceAdd,Nat.reduceSub,Array.replicate_succ,Array.replicate_zero,List.push_toArray,List.append_toArray,List.nil_append,List.cons_append];have hd:=HID.out _ HI.out;have c0:=hd.1.cell Hv.out.c0;have c1:=hd.1.cell Hv.out.c1;rw [<- hcn] at c1;have x1:=hd.2.1;have x2:=hd.2.2;have Habove:=dh (fun A (h:Ext W A)=>isAbove97 _ g.length gc (.slice ca cn cc) g t A (Graph.mono (hd.1.trans h) Hv.out.gr) ht ⟨ca,cn,cc,rfl⟩);clear hd hcn
 gi_upto_region 0 with (fail)
 refine wpIn_region_any (by kernel_rfl) ?_;change wpAnyIn _ _ _ _ _ _ _ _ _ (World.drew _);refine Xg 0 1 ?_;refine Xg 1 1 ?_;refine Xg 2 1 ?_;refine Xg 3 1 ?_;refine Xg 4 0 ?_;refine wpAnyIn_only (i:=5) rfl (by kernel_rfl) (fun K hK=>?_);go_simp;refine ⟨trivial,fun h=>(by cases h),callsIn_wide.2 ((Habove.out _ (Ext.drew _)).mono ?_)⟩;rintro e W1 ⟨rfl,hE⟩;have HI1:=dh (HIE.out _ _ HI.out ((Ext.drew _).trans hE));have HJ1:=dh (hJa.out _ _ _ H0.out ((Ext.drew _).trans hE));clear hE HI H0 c0 c1 x1 x2;have hd:=HID.out _ HI1.out;have c0:=hd.1.cell Hv.out.c0;have c3:=hd.1.cell Hby.out.c3;have x1:=hd.2.1;have x2:=hd.2.2;obtain ⟨b,off,pa,pl,pc,ma,ml,mc,oa,ol,oc,rfl,hlt2,hT⟩:=Graph.at (Graph.mono hd.1 Hv.out.gr) ht;have d6:=hT.c6;have hl0:=hT.ok.s0;have hl1:=hT.ok.s1;clear hd hT;refine hK _ _ ?_; clear hK K;cases hs:hasSuperB (nth g t).kind
 ·have Hs:=dh (show upsL g rs t=[] by unfold upsL; rw [hs]; rfl);clear hs;refine Xg 6 0 ?_;refine Xg 7 0 ?_;refine Xs 14 5 ?_;refine Xs 9 1 ?_;refine Xs 10 1 ?_;refine Xs 11 1 ?_;refine Xs 12 1 ?_;refine Xs 13 1 ?_;refine Xs 15 1 ?_;refine Xs 16 1 ?_;refine Xs 17 1 ?_;refine Xs 8 0 ?_;refine wpAnyIn_only (i:=18) rfl (by kernel_rfl) (fun K hK=>?_);go_simp;refine ⟨fun _ h=>(by cases h),?_⟩;refine hK _ _ ?_; clear hK K;refine Xs 19 0 ?_;refine Xg 20 0 ?_;refine Xg 21 0 ?_;refine Xs 27 5 ?_;refine Xs 22 0 ?_;refine Xs 23 0 ?_;refine Xs 24 0 ?_;refine Xs 25 0 ?_;refine Xs 26 0 ?_;refine Xs 28 0 ?_;refine Xs 29 0 ?_;refine Xs 30 0 ?_;refine Xs 31 0 ?_;refine Xg 32 0 ?_;refine wpAnyIn_done (by kernel_rfl) ?_ _;gi_wp2_with fail;refine bodyPost_ret (results_none rfl _ _ _) rfl ?_;exact ⟨⟨_,rfl⟩,.inl ⟨[],Hs.out.symm,HJ1.out⟩⟩
 ·obtain ⟨s0,s1⟩:=right_super hr hs;obtain ⟨sn,hsn⟩:∃ sn:Nat,(nth g t).super=sn:=⟨(nth g t).super.toNat,(Int.toNat_of_nonneg s0).symm⟩;have hpre:=upsL_super (rs:=rs) hs;have Hs1:=dh hs;rw [hsn] at d6 hpre;rw [Int.toNat_natCast] at hpre;obtain ⟨fn,tmps,assign,body,hy,hR⟩:=hY2.out [] sn W1 hpre HJ1.out HI1.out;have Hsn:=dh hsn;have Hpre:=dh hpre;clear hs hsn s0 s1 hpre hl0 hl1;refine Xg 6 0 ?_;refine Xg 7 0 ?_;refine Xg 14 5 ?_;refine Xg 9 1 ?_;refine Xg 10 1 ?_;refine Xg 11 1 ?_;refine Xg 12 1 ?_;refine Xg 13 1 ?_;refine Xg 15 1 ?_;refine Xg 16 1 ?_;refine Xg 17 1 ?_;refine Xg 8 0 ?_;refine wpAnyIn_only (i:=18) rfl (by kernel_rfl) (fun K hK=>?_);go_simp;refine ⟨fun h=>(by cases h),hR.mono ?_⟩;rintro e W3 (⟨rfl,hH⟩ | ⟨rfl,hJx⟩)
  ·have HJ3:=dh hH.out.1;have HI3:=dh hH.out.2;have hd:=HID.out _ HI3.out;have c0:=hd.1.cell Hv.out.c0;have c3:=hd.1.cell Hby.out.c3;have x1:=hd.2.1;have x2:=hd.2.2;obtain ⟨b,off,pa,pl,pc,ma,ml,mc,oa,ol,oc,hgo,hlt3,hT⟩:=Graph.at (Graph.mono hd.1 Hv.out.gr) ht;cases hgo;have d0:=hT.c0;have d5:=hT.c5;clear hd hT hH HJ1 HI1 hR hy d6;refine hK _ _ ?_; clear hK K;refine Xg 19 0 ?_;refine Xg 20 0 ?_;refine Xg 21 0 ?_;refine Xg 27 5 ?_;refine Xg 22 0 ?_;refine Xg 23 0 ?_;refine Xg 24 0 ?_;refine Xg 25 0 ?_;refine Xg 26 0 ?_;refine Xg 28 0 ?_;refine Xg 29 0 ?_;refine Xg 30 0 ?_;by_cases h13:(nth g t).kind=13
   ·have h13b:((nth g t).kind != 13)=false:=by rw [h13]; rfl
    have Hall:=dh (upsTo_all (rs:=rs) Hs1.out h13);have Hpr:=dh (fun k=>upsTo_prefix (rs:=rs) (k:=k) Hs1.out h13);clear h13;refine Xg 31 0 ?_;refine Xg 32 0 ?_;refine wpAnyIn_done (by kernel_rfl) ?_ _
    gi_upto_region 1 with (fail)
    have hrow:=Hby.out.row (nth g t).opq;have hlook:=(Hby.out.at_.ext ((HID.out _ HI3.out).1.trans (Ext.drew _))).lookup Tryz.underlying100 keyString (nth g t).opq zero35;obtain ⟨va,vc,hva,-⟩:=id hrow;rw [hva] at hlook hrow;have hbl:=(SlW.bound hrow).2;have hln:(numsOf (byN rs rs.length (nth g t).opq)).length=(byN rs rs.length (nth g t).opq).length:=by simp [numsOf]
    rw [hln] at hlook hrow hbl;obtain ⟨L,hL⟩:∃ L,L=byN rs rs.length (nth g t).opq:=⟨_,rfl⟩;rw [<- hL] at hlook hrow hbl;have HL:=dh hL;have Hrow:=dh hrow;have hl60:L.length<=60:=by have:=byN_len rs rs.length (nth g t).opq; rw [<- hL] at this; omega
    clear hva hrow hln hL;refine wpIn_region_any (by kernel_rfl) ?_;change wpAnyIn _ _ _ _ _ _ _ _ _ (World.drew _);refine Xg 9 5 ?_;refine Xg 4 4 ?_;refine Xg 5 4 ?_;refine Xg 6 4 ?_;refine Xg 7 4 ?_;refine Xg 8 4 ?_;refine Xg 10 4 ?_;refine Xg 11 4 ?_;refine Xg 12 4 ?_;refine Xg 0 1 ?_;refine Xg 1 1 ?_;refine Xg 2 1 ?_;refine Xg 3 1 ?_;refine Xg 13 1 ?_;refine Xg 14 1 ?_;refine Xg 15 0 ?_;refine wpAnyIn_done (by kernel_rfl) ?_ _;have HJ4:=dh (hJa.out _ _ _ HJ3.out (Ext.drew _));have HI4:=dh (HIE.out _ _ HI3.out (Ext.drew _));clear hlook d0 d5 c0 c3 x1 x2 HJ3 HI3
    gi_upto_region 2 with (fail)
    gi_loopw [5,54] (fun _ i wr=>∃ k:Nat,k<=L.length/\i=.int .i64 k/\Hid (J (upsTo g rs t k) wr/\Inv wr)) (fun _ i _=>L.length-(intOf i).toNat)
    case atStart=>exact ⟨0,Nat.zero_le _,rfl,by unfold upsTo; rw [Hsn.out]; simpa using HJ4.out,HI4.out⟩
    case round =>
     clear HJ4 HI4;obtain ⟨k,hk,rfl,hH⟩:=hrel;have HJ5:=dh hH.out.1;have HI5:=dh hH.out.2;clear hH;by_cases hlt:k<L.length
     ·have hd:=HID.out _ HI5.out;have x1:=hd.2.1;have c2:=hd.1.cell Hv.out.c2;obtain ⟨rb,roff,rfl,e0⟩:=numsOf_at (Ints.mono hd.1 Hrow.out) hlt;have hil:nth L k<rs.length:=byN_lt (k:=rs.length) (name:=(nth g t).opq) (by rw [<- HL.out]; exact nth_mem hlt);obtain ⟨q,hq⟩:∃ q,q=nth L k:=⟨_,rfl⟩;rw [<- hq] at e0 hil;obtain ⟨b9,off9,hro,hrl,r0,r1,r2,_⟩:=Reveals.at (Reveals.mono hd.1 Hv.out.re) hil;cases hro;obtain ⟨ty,hty⟩:∃ ty:Nat,(nth rs q).type=ty:=⟨(nth rs q).type.toNat,(Int.toNat_of_nonneg (Hrt.out q hil).1).symm⟩;rw [hty] at r2;have Hup:=dh (show upsTo g rs t (k+1)=upsTo g rs t k++[ty] by rw [upsTo_succ (by rw [<- HL.out]; exact hlt),<- HL.out,<- hq,hty,Int.toNat_natCast]);obtain ⟨fn,tmps,assign,body,hy,hR⟩:=hY2.out (upsTo g rs t k) ty wr (by rw [<- Hup.out]; exact Hpr.out _) HJ5.out HI5.out;have Hq:=dh hq;clear hd hq hty r0 r1;gi_wp2_with fail;refine ⟨fun h=>(by cases h),hR.mono ?_⟩;rintro e W5 (⟨rfl,hH⟩ | ⟨rfl,hJx⟩)
      ·gi_wp2_with fail;go_roundw
       case rel=>exact ⟨k+1,by omega,by go_num,by rw [Hup.out]; exact hH.out.1,hH.out.2⟩
       case measure=>simp [intOf]; omega
      ·gi_wp2_with fail;refine bodyPost_ret (results_none rfl _ _ _) rfl ?_;exact ⟨⟨_,rfl⟩,.inr ⟨_,by rw [<- Hup.out]; exact Hpr.out _,hJx.out⟩⟩
     ·have:k=L.length:=by omega
      subst this;gi_wp2_with fail
      go_end0
      exact ⟨⟨_,rfl⟩,.inl ⟨_,by rw [HL.out]; exact Hall.out,HJ5.out⟩⟩
   ·have h13b:((nth g t).kind != 13)=true:=by simp only [bne_iff_ne,ne_eq]; exact h13
    have Hsh:=dh (upsL_short (rs:=rs) Hs1.out h13);clear h13;refine Xg 31 0 ?_;refine Xg 32 0 ?_;refine wpAnyIn_done (by kernel_rfl) ?_ _;gi_wp2_with fail;refine bodyPost_ret (results_none rfl _ _ _) rfl ?_;exact ⟨⟨_,rfl⟩,.inl ⟨[sn],by rw [Hsh.out,Hsn.out,Int.toNat_natCast],HJ3.out⟩⟩
  ·refine hK _ _ ?_; clear hK K;refine Xg 19 0 ?_;refine Xg 20 0 ?_;refine Xg 21 0 ?_;refine Xs 27 5 ?_;refine Xs 22 0 ?_;refine Xs 23 0 ?_;refine Xs 24 0 ?_;refine Xs 25 0 ?_;refine Xs 26 0 ?_;refine Xs 28 0 ?_;refine Xs 29 0 ?_;refine Xs 30 0 ?_;refine Xs 31 0 ?_;refine Xg 32 0 ?_;refine wpAnyIn_done (by kernel_rfl) ?_ _;gi_wp2_with fail;refine bodyPost_ret (results_none rfl _ _ _) rfl ?_;exact ⟨⟨_,rfl⟩,.inr ⟨_,Hpre.out,hJx.out⟩⟩
end
section
open Go.RowKit Go.Proofs Go.Shelf
attribute [local go_sem] Oper.semAt_some
def revealL (g:List Ty) (rs:List Reveal) (t:Nat):List Stp:=if (nth g t).kind=13 then (byN rs rs.length (nth g t).opq).map fun i=>⟨5,(nth rs i).type.toNat,i⟩ else []
def revTo (rs:List Reveal) (L:List Nat) (k:Nat):List Stp:=(L.take k).map fun i=>⟨5,(nth rs i).type.toNat,i⟩
theorem revTo_succ {rs:List Reveal} {L:List Nat} {k:Nat} (hk:k<L.length):revTo rs L (k+1)=revTo rs L k++[⟨5,(nth rs (nth L k)).type.toNat,nth L k⟩]:=by unfold revTo; rw [take_snoc hk]; simp
theorem revTo_all (rs:List Reveal) (L:List Nat):revTo rs L L.length=L.map fun i=>⟨5,(nth rs i).type.toNat,i⟩:=by unfold revTo; rw [List.take_length]
theorem revTo_prefix (rs:List Reveal) (L:List Nat) (k:Nat):revTo rs L k <+: L.map fun i=>⟨5,(nth rs i).type.toNat,i⟩:=by
 unfold revTo
 conv=>rhs; rw [<- List.take_append_drop k L,List.map_append]
 exact List.prefix_append _ _
theorem revTo_len (rs:List Reveal) (L:List Nat) (k:Nat):(revTo rs L k).length<=L.length:=by unfold revTo; simp; omega
theorem reveal142 {N NN nV l:Nat} {w0:World} {foot:World->Nat->Prop} {J Jx:List Stp->World->Prop} (X:YCtx N NN nV l w0 foot J Jx) (m vb:Nat) (g:List Ty) (C:Nat->Nat) (rs:List Reveal) (S:List Nat) (gv cv rv av:Value) (hv:EnvW w0 vb g C rs S gv cv rv av)
  (mb:Nat) (mm:List (BA × Value)) (hby:ByAt w0 vb rs mb mm) (hnV:g.length<=nV) (hr60:rs.length<=60) (hrt:∀ i,i<rs.length->0<=(nth rs i).type/\(nth rs i).type<g.length) (t:Nat) (ht:t<g.length)
  (pre:List Stp) (hlen:pre.length+100<=NN) (W:World) (hE:Ext w0 W) (hN:N<=W.heap.size) (h0:J pre W) :
  CallsIn Fence.wide m Tryz.prog 142 #[.pointer (some ⟨vb,0,none⟩),.int .i64 t,.func (.yield l) #[] #[]] W (YPost w0.heap.size foot J Jx pre (revealL g rs t) W):=by
 obtain ⟨ga,gc,rfl,-⟩:=id hv.gr;obtain ⟨ra,rc,rfl,-⟩:=id hv.re;have hb:=(SlW.bound hv.gr).2;have c0:=hE.cell hv.c0;have c3:=hE.cell hby.c3;obtain ⟨b,off,pa,pl,pc,ma,ml,mc,oa,ol,oc,rfl,hlt2,hT⟩:=Graph.at (Graph.mono hE hv.gr) ht;have d0:=hT.c0;have d5:=hT.c5;have H0:=dh h0;have HE:=dh hE;have Hv:=dh hv;have Hby:=dh hby;have Hrt:=dh hrt;clear hT h0 hE hv hby hrt;by_cases h13:(nth g t).kind=13
 ·have h13b:((nth g t).kind != 13)=false:=by rw [h13]; rfl
  have hrow:=Hby.out.row (nth g t).opq;have hlook:=(Hby.out.at_.ext (HE.out.trans (Ext.drew _))).lookup Tryz.underlying100 keyString (nth g t).opq zero35;obtain ⟨va,vc,hva,-⟩:=id hrow;rw [hva] at hlook hrow;have hbl:=(SlW.bound hrow).2;have hln:(numsOf (byN rs rs.length (nth g t).opq)).length=(byN rs rs.length (nth g t).opq).length:=by simp [numsOf]
  rw [hln] at hlook hrow hbl;obtain ⟨L,hL⟩:∃ L,L=byN rs rs.length (nth g t).opq:=⟨_,rfl⟩;rw [<- hL] at hlook hrow hbl;have HL:=dh hL;have Hrow:=dh hrow;have hl60:L.length<=60:=by have:=byN_len rs rs.length (nth g t).opq; rw [<- hL] at this; omega
  have Hs:=dh (show revealL g rs t=L.map fun i=>⟨5,(nth rs i).type.toNat,i⟩ by unfold revealL; rw [if_pos h13,hL]);clear h13 hva hrow hln hL;refine callsIn_of_wp Tryz.func142 rfl trivial ?_ rfl;simp only [Tryz.ntmps142,List.size_toArray,List.length_cons,List.length_nil,Nat.reduceAdd,Nat.reduceSub,Array.replicate_succ,Array.replicate_zero,List.push_toArray,List.append_toArray,List.nil_append,List.cons_append]
  gi_upto_region 3 with (fail)
  refine wpIn_region_any (by kernel_rfl) ?_;change wpAnyIn _ _ _ _ _ _ _ _ _ (World.drew _);refine Xg 9 5 ?_;refine Xg 4 4 ?_;refine Xg 5 4 ?_;refine Xg 6 4 ?_;refine Xg 7 4 ?_;refine Xg 8 4 ?_;refine Xg 10 4 ?_;refine Xg 11 4 ?_;refine Xg 12 4 ?_;refine Xg 0 1 ?_;refine Xg 1 1 ?_;refine Xg 2 1 ?_;refine Xg 3 1 ?_;refine Xg 13 1 ?_;refine Xg 14 1 ?_;refine Xg 15 0 ?_;refine wpAnyIn_done (by kernel_rfl) ?_ _;have HJ4:=dh (X.gr _ _ _ H0.out (grown_of_ext (Ext.drew W)));have HE4:=dh (HE.out.trans (Ext.drew W));have HK4:=dh (KpF.ext X.ok (n:=w0.heap.size) HE.out.size hN (Ext.drew W));clear hlook d0 d5 c0 c3
  gi_upto_region 4 with (fail)
  gi_loopw [6,8,34] (fun _ _ i wr=>∃ k:Nat,k<=L.length/\i=.int .i64 k/\Hid (J (pre++revTo rs L k) wr/\Ext w0 wr/\KpF w0.heap.size foot W wr)) (fun _ _ i _=>L.length-(intOf i).toNat)
  case atStart=>exact ⟨0,Nat.zero_le _,rfl,by simpa [revTo] using HJ4.out,HE4.out,HK4.out⟩
  case round =>
   clear HJ4 HE4 HK4;obtain ⟨k,hk,rfl,hH⟩:=hrel;have HJ5:=dh hH.out.1;have HE5:=dh hH.out.2.1;have HK5:=dh hH.out.2.2;clear hH;by_cases hlt:k<L.length
   ·have c2:=HE5.out.cell Hv.out.c2;obtain ⟨rb,roff,rfl,e0⟩:=numsOf_at (Ints.mono HE5.out Hrow.out) hlt;have hil:nth L k<rs.length:=byN_lt (k:=rs.length) (name:=(nth g t).opq) (by rw [<- HL.out]; exact nth_mem hlt);obtain ⟨q,hq⟩:∃ q,q=nth L k:=⟨_,rfl⟩;rw [<- hq] at e0 hil;obtain ⟨b9,off9,hro,hrl,r0,r1,r2,_⟩:=Reveals.at (Reveals.mono HE5.out Hv.out.re) hil;cases hro;obtain ⟨ty,hty⟩:∃ ty:Nat,(nth rs q).type=ty:=⟨(nth rs q).type.toNat,(Int.toNat_of_nonneg (Hrt.out q hil).1).symm⟩;rw [hty] at r2;have htl:ty<g.length:=by have:=(Hrt.out q hil).2; omega
    have Hup:=dh (show revTo rs L (k+1)=revTo rs L k++[⟨5,ty,q⟩] by rw [revTo_succ hlt,<- hq,hty,Int.toNat_natCast]);have hrl2:=revTo_len rs L k;obtain ⟨fn,tmps,assign,body,hy,hR⟩:=X.Y (pre++revTo rs L k) ⟨5,ty,q⟩ wr ⟨by show 5<=7; decide,by show ty<nV; omega,by show q<60; omega⟩ HJ5.out (by rw [List.length_append]; omega);have hy2:(Instr.yield l #[.agg #[.int .u8 5,.int .i64 (ty:Int),.int .i64 (q:Int)]]).run Tryz.prog wr=.ok (.round l fn tmps assign body) wr:=hy;have Hq:=dh hq;clear hq hty r0 r1 hy;gi_wp2_with fail;refine ⟨fun h=>(by cases h),(hR _).mono ?_⟩;rintro e W5 (⟨rfl,hH⟩ | ⟨rfl,hJx⟩)
    ·gi_wp2_with fail;go_roundw
     case rel=>exact ⟨k+1,by omega,by go_num,by rw [Hup.out,<- List.append_assoc]; exact hH.out.1,ext_kpf HE5.out hH.out.2,HK5.out.trans hH.out.2⟩
     case measure=>simp [intOf]; omega
    ·gi_wp2_with fail;go_ret;rw [Hs.out];exact Or.inr ⟨rfl,revTo rs L (k+1),revTo_prefix rs L (k+1),by rw [Hup.out,<- List.append_assoc]; exact hJx.out⟩
   ·have:k=L.length:=by omega
    subst this;have Hall:=dh (revTo_all rs L);gi_wp2_with fail;go_ret;rw [Hs.out,<- Hall.out];exact Or.inl ⟨rfl,HJ5.out,HK5.out⟩
 ·have h13b:((nth g t).kind != 13)=true:=by simp only [bne_iff_ne,ne_eq]; exact h13
  have Hs:=dh (show revealL g rs t=[] by unfold revealL; rw [if_neg h13]);clear h13;refine callsIn_of_wp Tryz.func142 rfl trivial ?_ rfl;simp only [Tryz.ntmps142,List.size_toArray,List.length_cons,List.length_nil,Nat.reduceAdd,Nat.reduceSub,Array.replicate_succ,Array.replicate_zero,List.push_toArray,List.append_toArray,List.nil_append,List.cons_append];gi_wp2_with fail;go_ret;rw [Hs.out];exact Or.inl ⟨rfl,by rw [List.append_nil]; exact H0.out,KpF.refl _ _ _⟩
end
section
open Go.RowKit Go.Proofs Go.Shelf
attribute [local go_sem] Oper.semAt_some
def anyTo (k:Int):Int:=if k=7\/k=8 then 6 else if k=6\/k=9\/k=10\/k=11 then 4 else 0
def anyP (to_:Int) (k:Int):Bool:=to_ != 0&&k==to_
def anyL (g:List Ty) (t:Nat):List Stp:=toL 7 g.length fun u=>anyP (anyTo (nth g t).kind) (nth g u).kind
theorem anyMap (W:World):∃ W6,∃ m:List (Int × Value),(∀ k:Int,(alook k m).getD (.int .u8 0)=.int .u8 (anyTo k))/\MapAt (Value.int .u8) W6 W.heap.size m/\Ext W W6/\W6.heap.size=W.heap.size+1 /\
  ∃ W1 W2 W3 W4 W5,(Instr.mapUpdate 197 (.map (some W.heap.size)) (.int .u8 7) (.int .u8 6)).run Tryz.prog (W.alloc (.map #[] 0))=.ok () W1/\(Instr.mapUpdate 197 (.map (some W.heap.size)) (.int .u8 8) (.int .u8 6)).run Tryz.prog W1=.ok () W2 /\
   (Instr.mapUpdate 197 (.map (some W.heap.size)) (.int .u8 6) (.int .u8 4)).run Tryz.prog W2=.ok () W3/\(Instr.mapUpdate 197 (.map (some W.heap.size)) (.int .u8 9) (.int .u8 4)).run Tryz.prog W3=.ok () W4 /\
   (Instr.mapUpdate 197 (.map (some W.heap.size)) (.int .u8 10) (.int .u8 4)).run Tryz.prog W4=.ok () W5/\(Instr.mapUpdate 197 (.map (some W.heap.size)) (.int .u8 11) (.int .u8 4)).run Tryz.prog W5=.ok () W6:=by
 have h0:=MapAt.made (Value.int .u8) W;have hE0:=Ext.alloc W (.map #[] 0);obtain ⟨W1,r1,m1,g1,s1⟩:=h0.update Tryz.underlying197 keyU8 7 (.int .u8 6);obtain ⟨W2,r2,m2,g2,s2⟩:=m1.update Tryz.underlying197 keyU8 8 (.int .u8 6);obtain ⟨W3,r3,m3,g3,s3⟩:=m2.update Tryz.underlying197 keyU8 6 (.int .u8 4);obtain ⟨W4,r4,m4,g4,s4⟩:=m3.update Tryz.underlying197 keyU8 9 (.int .u8 4);obtain ⟨W5,r5,m5,g5,s5⟩:=m4.update Tryz.underlying197 keyU8 10 (.int .u8 4);obtain ⟨W6,r6,m6,g6,s6⟩:=m5.update Tryz.underlying197 keyU8 11 (.int .u8 4);have hg:=grownBy_trans (grownBy_trans (grownBy_trans (grownBy_trans (grownBy_trans g1 g2) g3) g4) g5) g6;refine ⟨W6,_,fun k=>?_,m6,hE0.grown hg (by simp) (fun k e=>by cases e; exact Nat.le_refl _),by rw [s6,s5,s4,s3,s2,s1]; simp,W1,W2,W3,W4,W5,r1,r2,r3,r4,r5,r6⟩;rw [alook_aput,alook_aput,alook_aput,alook_aput,alook_aput,alook_aput];unfold anyTo;by_cases k11:k=11
 ·subst k11; rfl
 by_cases k10:k=10
 ·subst k10; rfl
 by_cases k9:k=9
 ·subst k9; rfl
 by_cases k6:k=6
 ·subst k6; rfl
 by_cases k8:k=8
 ·subst k8; rfl
 by_cases k7:k=7
 ·subst k7; rfl
 simp [k11,k10,k9,k6,k8,k7,alook]
theorem any144 {N NN nV l:Nat} {w0:World} {foot:World->Nat->Prop} {J Jx:List Stp->World->Prop} (X:YCtx N NN nV l w0 foot J Jx) (m vb:Nat) (g:List Ty) (C:Nat->Nat) (rs:List Reveal) (S:List Nat) (gv cv rv av:Value) (hv:EnvW w0 vb g C rs S gv cv rv av)
  (hn:g.length<=400) (hnV:g.length<=nV) (t:Nat) (ht:t<g.length) (pre:List Stp) (hlen:pre.length+g.length<=NN) (W:World) (hE:Ext w0 W) (hN:N<=W.heap.size) (h0:J pre W) :
  CallsIn Fence.wide m Tryz.prog 144 #[.pointer (some ⟨vb,0,none⟩),.int .i64 t,.func (.yield l) #[] #[]] W (YPost w0.heap.size foot J Jx pre (anyL g t) W):=by
 obtain ⟨ga,gc,rfl,-⟩:=id hv.gr;have hb:=(SlW.bound hv.gr).2;have hE1:=Ext.alloc W (.cells #[.pointer (some ⟨vb,0,none⟩)] 28);obtain ⟨b,off,pa,pl,pc,ma,ml,mc,oa,ol,oc,hgo,hlt2,hT⟩:=Graph.at (Graph.mono hE hv.gr) ht;cases hgo;have d0:=hT.c0;obtain ⟨W6,mp,hlk,hM,hE6,hs6,W1,W2,W3,W4,W5,r1,r2,r3,r4,r5,r6⟩:=anyMap (W.alloc (.cells #[.pointer (some ⟨vb,0,none⟩)] 28));have hlook:=hM.lookup Tryz.underlying197 keyU8 (nth g t).kind zero5;rw [hlk] at hlook;rw [World.size_alloc] at r1 r2 r3 r4 r5 r6 hlook hs6;have hE16:=hE1.trans hE6;have hmm:=@run_makeMap Tryz.prog;have c0:=(hE.trans hE16).cell hv.c0;have d0':=hE16.cell d0;have hs3:Safe foot W6 W.heap.size #[.pointer (some ⟨vb,0,none⟩)] 28:=(Safe.new X.ok W hN _ _ (Or.inl (by decide))).ext X.ok (by simp; omega) hE6;have x3:=hs3.cell (j:=0) rfl;have hE7:=Ext.alloc W6 (.cells #[.int .u8 (anyTo (nth g t).kind)] 5);have hs7:Safe foot (W6.alloc (.cells #[.int .u8 (anyTo (nth g t).kind)] 5)) (W.heap.size+1+1) #[.int .u8 (anyTo (nth g t).kind)] 5:=by
  have:=Safe.new X.ok W6 (by omega) #[.int .u8 (anyTo (nth g t).kind)] 5 (Or.inl (by decide))
  rwa [hs6] at this
 have hs3':=hs3.ext X.ok (by omega) hE7;have hEall:=hE16.trans hE7;have hto:=dh (to166 N w0.heap.size NN nV l (m-1) foot X.ok J Jx X.Y X.gr 170 enters170 #[.pointer (some ⟨W.heap.size+1+1,0,none⟩),.pointer (some ⟨W.heap.size,0,none⟩)] 7 vb (by decide) _ g.length gc hn hnV (fun u=>anyP (anyTo (nth g t).kind) (nth g u).kind)
  (fun W'=>Ext w0 W'/\Safe foot W' W.heap.size #[.pointer (some ⟨vb,0,none⟩)] 28/\Safe foot W' (W.heap.size+1+1) #[.int .u8 (anyTo (nth g t).kind)] 5)
  (fun A B h k=>⟨ext_kpf h.1 k,h.2.1.kept k,h.2.2.kept k⟩) (fun A h=>h.1.cell hv.c0)
  (fun u A hu h=>any170 u _ _ vb _ _ g.length gc g A hu (h.2.2.cell rfl) (h.2.1.cell rfl) (h.1.cell hv.c0) (Graph.mono h.1 hv.gr))
  pre hlen _ (by simp; omega) (by have:=hE.size; simp; omega) ⟨hE.trans hEall,hs3',hs7⟩ (X.gr _ _ _ h0 (grown_of_ext hEall)))
 have HK:=dh (KpF.ext X.ok (n:=w0.heap.size) hE.size hN hEall);have Hlk:=dh hlk;obtain ⟨to_,hto_⟩:∃ to_,to_=anyTo (nth g t).kind:=⟨_,rfl⟩;rw [<- hto_] at hlook hto HK;have Hto:=dh hto_;clear hs3 hs3' hs7 hE1 hE6 hE16 hE7 hEall hT hv hM hlk d0 h0 hto_;refine callsIn_of_wp Tryz.func144 rfl trivial ?_ rfl;simp only [Tryz.ntmps144,List.size_toArray,List.length_cons,List.length_nil,Nat.reduceAdd,Nat.reduceSub,Array.replicate_succ,Array.replicate_zero,List.push_toArray,List.append_toArray,List.nil_append,List.cons_append];gi_wp2_with fail;refine ⟨trivial,fun h=>(by cases h),hto.out.mono ?_⟩;rintro e W9 hP;have HP:=dh hP;rcases hP with ⟨rfl,_⟩ | ⟨rfl,_⟩
 ·gi_wp2_with fail;go_ret;have:=YPost.step HK.out HP.out;rw [Hto.out] at this;exact this
 ·gi_wp2_with fail;go_ret;have:=YPost.step HK.out HP.out;rw [Hto.out] at this;exact this
end
section
open Go.RowKit Go.Proofs Go.Shelf
attribute [local go_sem] Oper.semAt_some
def ruleL (g:List Ty) (C:Nat->Nat) (rs:List Reveal) (t:Nat):Nat->List Stp
 | 1=>toL 1 g.length fun u=>C u==C t
 | 2=>widerL g t
 | 3=>nullL g t
 | 4=>superL g t
 | 5=>revealL g rs t
 | 6=>backL g rs t
 | 7=>anyL g t
 | _=>[]
def stepsTo (g:List Ty) (C:Nat->Nat) (rs:List Reveal) (t k:Nat):List Stp:=((List.range k).map (ruleL g C rs t)).flatten
def stepsL (g:List Ty) (C:Nat->Nat) (rs:List Reveal) (t:Nat):List Stp:=stepsTo g C rs t 8
theorem stepsTo_succ (g:List Ty) (C:Nat->Nat) (rs:List Reveal) (t k:Nat):stepsTo g C rs t (k+1)=stepsTo g C rs t k++ruleL g C rs t k:=by
 unfold stepsTo; rw [List.range_succ,List.map_append,List.flatten_append]; simp
theorem stepsTo_prefix (g:List Ty) (C:Nat->Nat) (rs:List Reveal) (t:Nat):∀ n k,k<=n->stepsTo g C rs t k <+: stepsTo g C rs t n
 | 0,k,h=>by rw [Nat.le_zero.1 h]; exact List.prefix_refl _
 | n+1,k,h=>by
  by_cases hk:k=n+1
  ·rw [hk]; exact List.prefix_refl _
  ·rw [stepsTo_succ];exact (stepsTo_prefix g C rs t n k (by omega)).trans (List.prefix_append _ _)
theorem ruleL_len {g:List Ty} {C:Nat->Nat} {rs:List Reveal} {t:Nat} (hn:g.length<=400) (h60:rs.length<=60):∀ k,(ruleL g C rs t k).length<=if k=6 then 24000 else 400
 | 0=>by simp [ruleL]
 | 1=>by have:=toL_len 1 g.length (fun u=>C u==C t); simp only [ruleL]; simp; omega
 | 2=>by
  simp only [ruleL,widerL];split
  ·have:=toL_len 2 g.length (fun u=>widerB (nth g t) (nth g u)); simp; omega
  ·simp
 | 3=>by
  simp only [ruleL,nullL];split
  ·have:=toL_len 3 g.length (fun u=>!isWordB (nth g u).kind); simp; omega
  ·simp
 | 4=>by simp only [ruleL,superL]; split <;> simp
 | 5=>by
  simp only [ruleL,revealL];split
  ·have:=byN_len rs rs.length (nth g t).opq; simp; omega
  ·simp
 | 6=>by
  have:=backUpTo_len g rs t rs.length;have h2:rs.length*g.length<=60*400:=Nat.mul_le_mul h60 hn;show (backL g rs t).length<=_
  unfold backL;simp; omega
 | 7=>by have:=toL_len 7 g.length (fun u=>anyP (anyTo (nth g t).kind) (nth g u).kind); simp only [ruleL,anyL]; simp; omega
 | k+8=>by simp [ruleL]
theorem stepsTo_len {g:List Ty} {C:Nat->Nat} {rs:List Reveal} {t:Nat} (hn:g.length<=400) (h60:rs.length<=60):∀ k,(stepsTo g C rs t k).length<=400*k+if 6<k then 24000 else 0
 | 0=>by simp [stepsTo]
 | k+1=>by
  rw [stepsTo_succ,List.length_append];have h1:=stepsTo_len (C:=C) (t:=t) hn h60 k;have h2:=ruleL_len (C:=C) (t:=t) hn h60 k;split at h1 <;> split at h2 <;> split <;> omega
theorem ruleL_ok {g:List Ty} {C:Nat->Nat} {rs:List Reveal} {t:Nat} (hr:rightB g (nth g t)=true) (h60:rs.length<=60) (hrt:∀ i,i<rs.length->0<=(nth rs i).type/\(nth rs i).type<g.length) :
  ∀ k s,s∈ruleL g C rs t k->OkStp g.length s:=by
 have hto:∀ r p s,r<=7->s∈toL r g.length p->OkStp g.length s:=fun r p s h7 hs=>by
  unfold toL at hs;obtain ⟨u,hu,rfl⟩:=List.mem_map.1 hs;exact ⟨h7,List.mem_range.1 (List.mem_filter.1 hu).1,by show 0<60; decide⟩
 intro k s hs
 match k,hs with
 | 0,hs=>cases hs
 | 1,hs=>exact hto 1 _ s (by decide) hs
 | 2,hs =>
  simp only [ruleL,widerL] at hs;split at hs
  ·exact hto 2 _ s (by decide) hs
  ·cases hs
 | 3,hs =>
  simp only [ruleL,nullL] at hs;split at hs
  ·exact hto 3 _ s (by decide) hs
  ·cases hs
 | 4,hs =>
  simp only [ruleL,superL] at hs;split at hs
  ·rename_i h
   have:=right_super hr h;rcases List.mem_singleton.1 hs with rfl
   exact ⟨by show 4<=7; decide,by show (nth g t).super.toNat<g.length; omega,by show 0<60; decide⟩
  ·cases hs
 | 5,hs =>
  simp only [ruleL,revealL] at hs;split at hs
  ·obtain ⟨i,hi,rfl⟩:=List.mem_map.1 hs;have hi:=byN_lt hi;have:=hrt i hi;exact ⟨by show 5<=7; decide,by show (nth rs i).type.toNat<g.length; omega,by show i<60; omega⟩
  ·cases hs
 | 6,hs =>
  simp only [ruleL,backL,backUpTo] at hs;obtain ⟨l,hl,hsl⟩:=List.mem_flatten.1 hs;obtain ⟨i,hi,rfl⟩:=List.mem_map.1 hl;have hi:=List.mem_range.1 hi;unfold backOf at hsl;split at hsl
  ·obtain ⟨u,hu,rfl⟩:=List.mem_map.1 hsl;exact ⟨by show 6<=7; decide,List.mem_range.1 (List.mem_filter.1 hu).1,by show i<60; omega⟩
  ·cases hsl
 | 7,hs=>exact hto 7 _ s (by decide) hs
 | k+8,hs=>cases hs
theorem stepsTo_ok {g:List Ty} {C:Nat->Nat} {rs:List Reveal} {t:Nat} (hr:rightB g (nth g t)=true) (h60:rs.length<=60) (hrt:∀ i,i<rs.length->0<=(nth rs i).type/\(nth rs i).type<g.length) (k:Nat):∀ s,s∈stepsTo g C rs t k->OkStp g.length s:=by
 intro s hs;unfold stepsTo at hs;obtain ⟨l,hl,hsl⟩:=List.mem_flatten.1 hs;obtain ⟨i,_,rfl⟩:=List.mem_map.1 hl;exact ruleL_ok hr h60 hrt i s hsl
end
end Go.Proofs.YtjffkeoajkhbmaaGreat
