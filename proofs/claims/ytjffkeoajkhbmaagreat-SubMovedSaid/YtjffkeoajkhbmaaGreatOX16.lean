/- sub.steps, walked. A queue of numbers of the call's own: what is left of it, and what is put behind it. sub.circles: does a class come to itself on the way up? -/
import Derived.Test.YtjffkeoajkhbmaaGreatOX14
import Derived.Test.YtjffkeoajkhbmaaGreatOX15
namespace Go.Proofs.YtjffkeoajkhbmaaGreat
set_option linter.unusedSimpArgs false
set_option linter.unusedVariables false
set_option maxRecDepth 100000
set_option maxHeartbeats 8000000
section
open Go.RowKit Go.Proofs Go.Shelf
attribute [local go_sem] Oper.semAt_some
abbrev StpG (n:Nat):={ s:Stp // OkStp n s }
def encG {n:Nat} (s:StpG n):Array Value:=encStp s.1
theorem steps106 (N vb:Nat) (g:List Ty) (C:Nat->Nat) (rs:List Reveal) (S:List Nat) (gv cv rv av:Value) (mb:Nat) (mm:List (BA × Value)) (w0 w:World) (hv:EnvW w0 vb g C rs S gv cv rv av) (hby:ByAt w0 vb rs mb mm) (hE:Ext w0 w)
  (hn:g.length<=400) (hr60:rs.length<=60) (t:Nat) (ht:t<g.length) (hr:rightB g (nth g t)=true) (hrt:∀ i,i<rs.length->0<=(nth rs i).type/\(nth rs i).type<g.length)
  (foot:World->Nat->Prop) (hok:FootOk N foot) (hN:N<=w.heap.size) (b1 b2:Nat) (h1:Safe foot w b1 #[.pointer (some ⟨vb,0,none⟩)] 28) (h2:Safe foot w b2 #[.int .i64 t] 3) (m:Nat) :
  SeqStopsK Fence.wide m Tryz.prog 106 #[.pointer (some ⟨b1,0,none⟩),.pointer (some ⟨b2,0,none⟩)] (encG (n:=g.length)) (KpF w0.heap.size foot) (fun ys=>ys.map (·.1)=stepsL g C rs t) (fun pre=>pre.map (·.1) <+: stepsL g C rs t) 30000 w:=by
 intro l JA JxA W hW hJA hJxA hYA hA0;have hso:=stepsTo_ok hr hr60 hrt (C:=C);obtain ⟨J,hJd⟩:∃ J:List Stp->World->Prop,J=fun pre W=>∃ pa:List (StpG g.length),pa.map (·.1)=pre/\JA pa W:=⟨_,rfl⟩
 obtain ⟨Jx,hJxd⟩:∃ J:List Stp->World->Prop,J=fun pre W=>∃ pa:List (StpG g.length),pa.map (·.1)=pre/\JxA pa W:=⟨_,rfl⟩
 have h0:J [] W:=by rw [hJd]; exact ⟨[],rfl,hA0⟩
 have hEW:Ext w0 W:=hE.trans hW;have hNW:N<=W.heap.size:=Nat.le_trans hN hW.size;have s1:=h1.ext hok hN hW;have s2:=h2.ext hok hN hW;have X:YCtx N 30000 g.length l w0 foot J Jx:=by
  refine ⟨hok,?_,?_⟩
  ·intro pre s W1 hs h hl;rw [hJd] at h;obtain ⟨pa,e1,e2⟩:=h;obtain ⟨fn,tmps,assign,body,hr,hR⟩:=hYA pa ⟨s,hs⟩ W1 e2 (by rw [<- e1] at hl; simpa using hl);refine ⟨fn,tmps,assign,body,hr,fun m=>roundIn_any (hR.mono ?_)⟩;rintro e W' (⟨rfl,a,b⟩ | ⟨rfl,a⟩)
   ·exact Or.inl ⟨rfl,by rw [hJd]; exact ⟨_,by simp [e1],a⟩,b⟩
   ·exact Or.inr ⟨rfl,by rw [hJxd]; exact ⟨_,by simp [e1],a⟩⟩
  ·intro pre W1 W2 h hg;rw [hJd] at h ⊢;obtain ⟨pa,e1,e2⟩:=h;exact ⟨pa,e1,hJA pa W1 W2 none e2 hg (fun r e=>by cases e)⟩
 refine CallsIn.mono (R:=fun e W'=>(∃ v,e=.returned v)/\((∃ xs,xs=stepsL g C rs t/\J xs W')\/(∃ pre,pre <+: stepsL g C rs t/\Jx pre W'))) ?_ ?_;rotate_left
 ·rintro e W' ⟨hv,(⟨xs,rfl,h⟩ | ⟨pre,hp,h⟩)⟩
  ·rw [hJd] at h;obtain ⟨pa,e1,e2⟩:=h;exact ⟨hv,Or.inl ⟨pa,e1,e2⟩⟩
  ·rw [hJxd] at h;obtain ⟨pa,e1,e2⟩:=h;exact ⟨hv,Or.inr ⟨pa,(show pa.map (·.1) <+: stepsL g C rs t by rw [e1]; exact hp),e2⟩⟩
 clear hJA hJxA hYA hA0 hJd hJxd hso h1 h2;have hlen:=fun k=>stepsTo_len (C:=C) (t:=t) hn hr60 k;have hrule:=dh (show ∀ k F,1<=k->k<8->stepTable[k]? = some (.func (.func F) #[] #[])->∀ Wk,J (stepsTo g C rs t k) Wk->Ext w0 Wk->N<=Wk.heap.size->∀ m,CallsIn Fence.wide m Tryz.prog F #[.pointer (some ⟨vb,0,none⟩),.int .i64 t,.func (.yield l) #[] #[]] Wk (YPost w0.heap.size foot J Jx (stepsTo g C rs t k) (ruleL g C rs t k) Wk) from by
  intro k F hk1 hk8 hF Wk hJ hEk hNk m;have hl:=hlen k;rcases (show k=1\/k=2\/k=3\/k=4\/k=5\/k=6\/k=7 by omega) with rfl | rfl | rfl | rfl | rfl | rfl | rfl
  ·cases hF; exact same138 X m vb g C rs S gv cv rv av hv hn (Nat.le_refl _) t ht _ (by simp at hl; omega) Wk hEk hNk hJ
  ·cases hF; exact wider139 X m vb g C rs S gv cv rv av hv hn (Nat.le_refl _) t ht _ (by simp at hl; omega) Wk hEk hNk hJ
  ·cases hF; exact null140 X m vb g C rs S gv cv rv av hv hn (Nat.le_refl _) t ht _ (by simp at hl; omega) Wk hEk hNk hJ
  ·cases hF; exact super141 X m vb g C rs S gv cv rv av hv (Nat.le_refl _) t ht hr _ (by simp at hl; omega) Wk hEk hNk hJ
  ·cases hF; exact reveal142 X m vb g C rs S gv cv rv av hv mb mm hby (Nat.le_refl _) hr60 hrt t ht _ (by simp at hl; omega) Wk hEk hNk hJ
  ·cases hF; exact back143 X m vb g C rs S gv cv rv av hv hn (Nat.le_refl _) hr60 t ht _ (by simp at hl; omega) Wk hEk hNk hJ
  ·cases hF; exact any144 X m vb g C rs S gv cv rv av hv hn (Nat.le_refl _) t ht _ (by simp at hl; omega) Wk hEk hNk hJ)
 have HX:=dh X;have H0:=dh h0;clear hv hby hrt hr hlen X h0 hE hW;have Hok:=dh hok;clear hok;refine callsIn_of_wp Tryz.func106 rfl trivial ?_ rfl;simp only [Tryz.ntmps106,List.size_toArray,List.length_cons,List.length_nil,Nat.reduceAdd,Nat.reduceSub,Array.replicate_succ,Array.replicate_zero,List.push_toArray,List.append_toArray,List.nil_append,List.cons_append];gi_wp2_with fail;refine ⟨trivial,fun h=>(by cases h),callsIn_wide.2 ((rules107 W).mono ?_)⟩;rintro e W1 ⟨rfl,hE1⟩;have HJ1:=dh (HX.out.gr _ _ _ H0.out (grown_of_ext hE1));have HE1:=dh (hEW.trans hE1);have HK1:=dh (KpF.ext Hok.out (n:=w0.heap.size) hEW.size hNW hE1);have HS1:=dh (s1.ext Hok.out hNW hE1);have HS2:=dh (s2.ext Hok.out hNW hE1);clear hE1 s1 s2 H0 hEW
 gi_upto_region 1 with (fail)
 gi_loopw [5,7] (fun _ i wr=>∃ k:Nat,k<=8/\i=.int .i64 k/\Hid (J (stepsTo g C rs t k) wr/\Ext w0 wr/\KpF w0.heap.size foot W wr/\Safe foot wr b1 #[.pointer (some ⟨vb,0,none⟩)] 28/\Safe foot wr b2 #[.int .i64 t] 3)) (fun _ i _=>8-(intOf i).toNat)
 case atStart=>exact ⟨0,Nat.zero_le _,rfl,HJ1.out,HE1.out,HK1.out,HS1.out,HS2.out⟩
 case round =>
  clear HJ1 HE1 HK1 HS1 HS2;obtain ⟨k,hk,rfl,hH⟩:=hrel;have HJ:=dh hH.out.1;have HE:=dh hH.out.2.1;have HK:=dh hH.out.2.2.1;have HS1:=dh hH.out.2.2.2.1;have HS2:=dh hH.out.2.2.2.2;clear hH;by_cases hlt:k<8
  ·have x1:=HS1.out.cell (j:=0) rfl;have x2:=HS2.out.cell (j:=0) rfl;have hNr:N<=wr.heap.size:=Nat.le_trans hNW HK.out.below.size;by_cases hk0:k=0
   ·subst hk0;have Hsu:=dh (show stepsTo g C rs t (0+1)=stepsTo g C rs t 0 by rw [stepsTo_succ]; simp [ruleL]);have hnq:∀ w,(binOp .neq 151 .nilFunc .nilFunc).run Tryz.prog w=.ok (.bool false) w:=fun _=>by kernel_rfl
    have hix:∀ w,(Instr.index 152 (.agg stepTable) (.int .i64 0)).run Tryz.prog w=.ok .nilFunc w:=fun _=>by kernel_rfl
    gi_wp2_with fail;refine ⟨fun _ h=>(by cases h),?_⟩;gi_wp2_with fail;go_roundw
    case rel=>exact ⟨0+1,by omega,rfl,by rw [Hsu.out]; exact HJ.out,HE.out,HK.out,HS1.out,HS2.out⟩
    case measure=>simp [intOf]
   ·rcases (show k=1\/k=2\/k=3\/k=4\/k=5\/k=6\/k=7 by omega) with rfl | rfl | rfl | rfl | rfl | rfl | rfl
    ·have hc:=dh (hrule.out 1 138 (by decide) (by decide) rfl wr HJ.out HE.out hNr);have Hsu:=dh (stepsTo_succ g C rs t 1);have Hpx:=dh (stepsTo_prefix g C rs t 8 (1+1) (by decide));have hix:∀ w,(Instr.index 152 (.agg stepTable) (.int .i64 1)).run Tryz.prog w=.ok (.func (.func 138) #[] #[]) w:=fun _=>by kernel_rfl
     have hnq:∀ w,(binOp .neq 151 (.func (.func 138) #[] #[]) .nilFunc).run Tryz.prog w=.ok (.bool true) w:=fun _=>by kernel_rfl
     have hEn:∀ (args:Array Value) (w:World),(callFunc 138 args).run Tryz.prog w=.ok (.enter 138 args) w:=enters_of Tryz.func138 (by kernel_rfl) rfl;gi_wp2_with fail;refine ⟨trivial,fun h=>(by cases h),(hc.out _).mono ?_⟩;rintro e W3 (⟨rfl,hJ3,hK3⟩ | ⟨rfl,q,hq,hJx⟩)
     ·have HJ3:=dh hJ3;have HK3:=dh hK3;clear hJ3 hK3;gi_wp2_with fail;go_roundw
      case rel=>exact ⟨1+1,by omega,rfl,by rw [Hsu.out]; exact HJ3.out,ext_kpf HE.out HK3.out,HK.out.trans HK3.out,HS1.out.kept HK3.out,HS2.out.kept HK3.out⟩
      case measure=>simp [intOf]
     ·have HJx:=dh hJx;have Hq:=dh hq;clear hJx hq;gi_wp2_with fail;refine bodyPost_ret (results_none rfl _ _ _) rfl ?_;exact ⟨⟨_,rfl⟩,.inr ⟨_,(show stepsTo g C rs t 1++q <+: stepsL g C rs t from ((List.prefix_append_right_inj _).2 Hq.out).trans (by rw [<- Hsu.out]; exact Hpx.out)),HJx.out⟩⟩
    ·have hc:=dh (hrule.out 2 139 (by decide) (by decide) rfl wr HJ.out HE.out hNr);have Hsu:=dh (stepsTo_succ g C rs t 2);have Hpx:=dh (stepsTo_prefix g C rs t 8 (2+1) (by decide));have hix:∀ w,(Instr.index 152 (.agg stepTable) (.int .i64 2)).run Tryz.prog w=.ok (.func (.func 139) #[] #[]) w:=fun _=>by kernel_rfl
     have hnq:∀ w,(binOp .neq 151 (.func (.func 139) #[] #[]) .nilFunc).run Tryz.prog w=.ok (.bool true) w:=fun _=>by kernel_rfl
     have hEn:∀ (args:Array Value) (w:World),(callFunc 139 args).run Tryz.prog w=.ok (.enter 139 args) w:=enters_of Tryz.func139 (by kernel_rfl) rfl;gi_wp2_with fail;refine ⟨trivial,fun h=>(by cases h),(hc.out _).mono ?_⟩;rintro e W3 (⟨rfl,hJ3,hK3⟩ | ⟨rfl,q,hq,hJx⟩)
     ·have HJ3:=dh hJ3;have HK3:=dh hK3;clear hJ3 hK3;gi_wp2_with fail;go_roundw
      case rel=>exact ⟨2+1,by omega,rfl,by rw [Hsu.out]; exact HJ3.out,ext_kpf HE.out HK3.out,HK.out.trans HK3.out,HS1.out.kept HK3.out,HS2.out.kept HK3.out⟩
      case measure=>simp [intOf]
     ·have HJx:=dh hJx;have Hq:=dh hq;clear hJx hq;gi_wp2_with fail;refine bodyPost_ret (results_none rfl _ _ _) rfl ?_;exact ⟨⟨_,rfl⟩,.inr ⟨_,(show stepsTo g C rs t 2++q <+: stepsL g C rs t from ((List.prefix_append_right_inj _).2 Hq.out).trans (by rw [<- Hsu.out]; exact Hpx.out)),HJx.out⟩⟩
    ·have hc:=dh (hrule.out 3 140 (by decide) (by decide) rfl wr HJ.out HE.out hNr);have Hsu:=dh (stepsTo_succ g C rs t 3);have Hpx:=dh (stepsTo_prefix g C rs t 8 (3+1) (by decide));have hix:∀ w,(Instr.index 152 (.agg stepTable) (.int .i64 3)).run Tryz.prog w=.ok (.func (.func 140) #[] #[]) w:=fun _=>by kernel_rfl
     have hnq:∀ w,(binOp .neq 151 (.func (.func 140) #[] #[]) .nilFunc).run Tryz.prog w=.ok (.bool true) w:=fun _=>by kernel_rfl
     have hEn:∀ (args:Array Value) (w:World),(callFunc 140 args).run Tryz.prog w=.ok (.enter 140 args) w:=enters_of Tryz.func140 (by kernel_rfl) rfl;gi_wp2_with fail;refine ⟨trivial,fun h=>(by cases h),(hc.out _).mono ?_⟩;rintro e W3 (⟨rfl,hJ3,hK3⟩ | ⟨rfl,q,hq,hJx⟩)
     ·have HJ3:=dh hJ3;have HK3:=dh hK3;clear hJ3 hK3;gi_wp2_with fail;go_roundw
      case rel=>exact ⟨3+1,by omega,rfl,by rw [Hsu.out]; exact HJ3.out,ext_kpf HE.out HK3.out,HK.out.trans HK3.out,HS1.out.kept HK3.out,HS2.out.kept HK3.out⟩
      case measure=>simp [intOf]
     ·have HJx:=dh hJx;have Hq:=dh hq;clear hJx hq;gi_wp2_with fail;refine bodyPost_ret (results_none rfl _ _ _) rfl ?_;exact ⟨⟨_,rfl⟩,.inr ⟨_,(show stepsTo g C rs t 3++q <+: stepsL g C rs t from ((List.prefix_append_right_inj _).2 Hq.out).trans (by rw [<- Hsu.out]; exact Hpx.out)),HJx.out⟩⟩
    ·have hc:=dh (hrule.out 4 141 (by decide) (by decide) rfl wr HJ.out HE.out hNr);have Hsu:=dh (stepsTo_succ g C rs t 4);have Hpx:=dh (stepsTo_prefix g C rs t 8 (4+1) (by decide));have hix:∀ w,(Instr.index 152 (.agg stepTable) (.int .i64 4)).run Tryz.prog w=.ok (.func (.func 141) #[] #[]) w:=fun _=>by kernel_rfl
     have hnq:∀ w,(binOp .neq 151 (.func (.func 141) #[] #[]) .nilFunc).run Tryz.prog w=.ok (.bool true) w:=fun _=>by kernel_rfl
     have hEn:∀ (args:Array Value) (w:World),(callFunc 141 args).run Tryz.prog w=.ok (.enter 141 args) w:=enters_of Tryz.func141 (by kernel_rfl) rfl;gi_wp2_with fail;refine ⟨trivial,fun h=>(by cases h),(hc.out _).mono ?_⟩;rintro e W3 (⟨rfl,hJ3,hK3⟩ | ⟨rfl,q,hq,hJx⟩)
     ·have HJ3:=dh hJ3;have HK3:=dh hK3;clear hJ3 hK3;gi_wp2_with fail;go_roundw
      case rel=>exact ⟨4+1,by omega,rfl,by rw [Hsu.out]; exact HJ3.out,ext_kpf HE.out HK3.out,HK.out.trans HK3.out,HS1.out.kept HK3.out,HS2.out.kept HK3.out⟩
      case measure=>simp [intOf]
     ·have HJx:=dh hJx;have Hq:=dh hq;clear hJx hq;gi_wp2_with fail;refine bodyPost_ret (results_none rfl _ _ _) rfl ?_;exact ⟨⟨_,rfl⟩,.inr ⟨_,(show stepsTo g C rs t 4++q <+: stepsL g C rs t from ((List.prefix_append_right_inj _).2 Hq.out).trans (by rw [<- Hsu.out]; exact Hpx.out)),HJx.out⟩⟩
    ·have hc:=dh (hrule.out 5 142 (by decide) (by decide) rfl wr HJ.out HE.out hNr);have Hsu:=dh (stepsTo_succ g C rs t 5);have Hpx:=dh (stepsTo_prefix g C rs t 8 (5+1) (by decide));have hix:∀ w,(Instr.index 152 (.agg stepTable) (.int .i64 5)).run Tryz.prog w=.ok (.func (.func 142) #[] #[]) w:=fun _=>by kernel_rfl
     have hnq:∀ w,(binOp .neq 151 (.func (.func 142) #[] #[]) .nilFunc).run Tryz.prog w=.ok (.bool true) w:=fun _=>by kernel_rfl
     have hEn:∀ (args:Array Value) (w:World),(callFunc 142 args).run Tryz.prog w=.ok (.enter 142 args) w:=enters_of Tryz.func142 (by kernel_rfl) rfl;gi_wp2_with fail;refine ⟨trivial,fun h=>(by cases h),(hc.out _).mono ?_⟩;rintro e W3 (⟨rfl,hJ3,hK3⟩ | ⟨rfl,q,hq,hJx⟩)
     ·have HJ3:=dh hJ3;have HK3:=dh hK3;clear hJ3 hK3;gi_wp2_with fail;go_roundw
      case rel=>exact ⟨5+1,by omega,rfl,by rw [Hsu.out]; exact HJ3.out,ext_kpf HE.out HK3.out,HK.out.trans HK3.out,HS1.out.kept HK3.out,HS2.out.kept HK3.out⟩
      case measure=>simp [intOf]
     ·have HJx:=dh hJx;have Hq:=dh hq;clear hJx hq;gi_wp2_with fail;refine bodyPost_ret (results_none rfl _ _ _) rfl ?_;exact ⟨⟨_,rfl⟩,.inr ⟨_,(show stepsTo g C rs t 5++q <+: stepsL g C rs t from ((List.prefix_append_right_inj _).2 Hq.out).trans (by rw [<- Hsu.out]; exact Hpx.out)),HJx.out⟩⟩
    ·have hc:=dh (hrule.out 6 143 (by decide) (by decide) rfl wr HJ.out HE.out hNr);have Hsu:=dh (stepsTo_succ g C rs t 6);have Hpx:=dh (stepsTo_prefix g C rs t 8 (6+1) (by decide));have hix:∀ w,(Instr.index 152 (.agg stepTable) (.int .i64 6)).run Tryz.prog w=.ok (.func (.func 143) #[] #[]) w:=fun _=>by kernel_rfl
     have hnq:∀ w,(binOp .neq 151 (.func (.func 143) #[] #[]) .nilFunc).run Tryz.prog w=.ok (.bool true) w:=fun _=>by kernel_rfl
     have hEn:∀ (args:Array Value) (w:World),(callFunc 143 args).run Tryz.prog w=.ok (.enter 143 args) w:=enters_of Tryz.func143 (by kernel_rfl) rfl;gi_wp2_with fail;refine ⟨trivial,fun h=>(by cases h),(hc.out _).mono ?_⟩;rintro e W3 (⟨rfl,hJ3,hK3⟩ | ⟨rfl,q,hq,hJx⟩)
     ·have HJ3:=dh hJ3;have HK3:=dh hK3;clear hJ3 hK3;gi_wp2_with fail;go_roundw
      case rel=>exact ⟨6+1,by omega,rfl,by rw [Hsu.out]; exact HJ3.out,ext_kpf HE.out HK3.out,HK.out.trans HK3.out,HS1.out.kept HK3.out,HS2.out.kept HK3.out⟩
      case measure=>simp [intOf]
     ·have HJx:=dh hJx;have Hq:=dh hq;clear hJx hq;gi_wp2_with fail;refine bodyPost_ret (results_none rfl _ _ _) rfl ?_;exact ⟨⟨_,rfl⟩,.inr ⟨_,(show stepsTo g C rs t 6++q <+: stepsL g C rs t from ((List.prefix_append_right_inj _).2 Hq.out).trans (by rw [<- Hsu.out]; exact Hpx.out)),HJx.out⟩⟩
    ·have hc:=dh (hrule.out 7 144 (by decide) (by decide) rfl wr HJ.out HE.out hNr);have Hsu:=dh (stepsTo_succ g C rs t 7);have Hpx:=dh (stepsTo_prefix g C rs t 8 (7+1) (by decide));have hix:∀ w,(Instr.index 152 (.agg stepTable) (.int .i64 7)).run Tryz.prog w=.ok (.func (.func 144) #[] #[]) w:=fun _=>by kernel_rfl
     have hnq:∀ w,(binOp .neq 151 (.func (.func 144) #[] #[]) .nilFunc).run Tryz.prog w=.ok (.bool true) w:=fun _=>by kernel_rfl
     have hEn:∀ (args:Array Value) (w:World),(callFunc 144 args).run Tryz.prog w=.ok (.enter 144 args) w:=enters_of Tryz.func144 (by kernel_rfl) rfl;gi_wp2_with fail;refine ⟨trivial,fun h=>(by cases h),(hc.out _).mono ?_⟩;rintro e W3 (⟨rfl,hJ3,hK3⟩ | ⟨rfl,q,hq,hJx⟩)
     ·have HJ3:=dh hJ3;have HK3:=dh hK3;clear hJ3 hK3;gi_wp2_with fail;go_roundw
      case rel=>exact ⟨7+1,by omega,rfl,by rw [Hsu.out]; exact HJ3.out,ext_kpf HE.out HK3.out,HK.out.trans HK3.out,HS1.out.kept HK3.out,HS2.out.kept HK3.out⟩
      case measure=>simp [intOf]
     ·have HJx:=dh hJx;have Hq:=dh hq;clear hJx hq;gi_wp2_with fail;refine bodyPost_ret (results_none rfl _ _ _) rfl ?_;exact ⟨⟨_,rfl⟩,.inr ⟨_,(show stepsTo g C rs t 7++q <+: stepsL g C rs t from ((List.prefix_append_right_inj _).2 Hq.out).trans (by rw [<- Hsu.out]; exact Hpx.out)),HJx.out⟩⟩
  ·have:k=8:=by omega
   subst this;gi_wp2_with fail
   go_end0
   exact ⟨⟨_,rfl⟩,.inl ⟨_,rfl,HJ.out⟩⟩
end
section
open Go.RowKit Go.Proofs
def Tail (W:World) (B:Nat) (v:Value) (xs:List Nat):Prop :=
 ∃ g off cap cur,v=.slice (some ⟨g,off,none⟩) xs.length cap/\B<=g/\W.heap[g]? = some (.cells cur 3 (0,0))/\xs.length<=cap/\cap<=maxLen/\(cap=0\/(off+cap<=cur.size/\0<off+xs.length))/\∀ i x,xs[i]? = some x->cur[off+i]? = some (.int .i64 (x:Nat))
theorem Tail.kept {W W':World} {B:Nat} {v:Value} {xs:List Nat} (h:Tail W B v xs) (hk:∀ g,v.ownBlock=some g->W'.heap[g]? = W.heap[g]?):Tail W' B v xs:=by
 obtain ⟨g,off,cap,cur,rfl,h1,h2,h3,h4,h5,h6⟩:=h;exact ⟨g,off,cap,cur,rfl,h1,(hk g rfl).trans h2,h3,h4,h5,h6⟩
theorem Tail.ext {W W':World} {B:Nat} {v:Value} {xs:List Nat} (h:Tail W B v xs) (hE:Ext W W'):Tail W' B v xs:=by
 obtain ⟨g,off,cap,cur,rfl,h1,h2,h3,h4,h5,h6⟩:=h;exact ⟨g,off,cap,cur,rfl,h1,(hE.block g (row_lt h2)).trans h2,h3,h4,h5,h6⟩
theorem run_append_tail {W:World} {B:Nat} {v:Value} {xs:List Nat} (hT:Tail W B v xs) (a:Addr) (y:Nat) (hy:W.cell? a=some (.int .i64 (y:Nat))) (ha:a.spot=none) (hn:xs.length<1000000) (hB:B<=W.heap.size) :
  ∃ v' W',(Builtin.append_ #[35,35] 35 #[v,.slice (some a) 1 1]).run Tryz.prog W=.ok v' W'/\Tail W' B v' (xs++[y])/\∃ g cur,v.ownBlock=some g/\W.heap[g]? = some (.cells cur 3 (0,0))/\W.grownBy W' (some g)/\(W.grownBy W' none\/2<=cur.size):=by
 obtain ⟨i0,hi,hz0,hz1,hz2⟩:=info_parts info3;obtain ⟨g,off,cap,cur,rfl,h1,h2,h3,h4,h5,h6⟩:=hT;have hnews:∀ j u,([.int .i64 (y:Nat)]:List Value)[j]? = some u->W.cell? (a.add j)=some u:=by
  intro j u hj
  match j,hj with
  | 0,hj =>
   simp at hj;subst hj;have:a.add 0=a:=by obtain ⟨b,o,s⟩:=a; simp only at ha; subst ha; simp [Addr.add]
   rw [this]; exact hy
 by_cases hroom:xs.length+1<=cap
 ·have h5:off+cap<=cur.size/\0<off+xs.length:=by rcases h5 with h | h; omega; exact h
  have hf:=run_firstCells_some (P:=Tryz.prog) W i0.size 1 a 1 1 [.int .i64 (y:Nat)] (by rw [hz1]; rfl) hnews;rw [hz1] at hf;have hst:=run_storeCells_at Tryz.prog g (off+xs.length) 3 [.int .i64 (y:Nat)] 0 cur W h2 (by simp; omega) (by simp [Value.oneCell']);simp only [Nat.add_zero] at hst;obtain ⟨cur',hcur'⟩:∃ cur':Array Value,cur'=(cur.toList.take (off+xs.length)++[Value.int .i64 (y:Nat)]++cur.toList.drop (off+xs.length+1)).toArray:=⟨_,rfl⟩;have hst:(storeCells ⟨g,off+xs.length,none⟩ [.int .i64 (y:Nat)] 0).run Tryz.prog W=.ok () (W.setRow g cur'):=by rw [hcur']; exact hst
  have hlt:off+xs.length<cur.toList.length:=by have:=Array.length_toList (xs:=cur); omega
  have hget:∀ j,cur'[j]? = if j=off+xs.length then some (.int .i64 (y:Nat)) else cur[j]? := by
   intro j;rw [hcur',List.getElem?_toArray,List.append_assoc];by_cases h:j<off+xs.length
   ·rw [List.getElem?_append_left (by rw [List.length_take]; omega),List.getElem?_take,if_pos h,if_neg (by omega)]; simp
   ·rw [List.getElem?_append_right (by rw [List.length_take]; omega),List.length_take,Nat.min_eq_left (by omega)];by_cases h2:j=off+xs.length
    ·subst h2; simp
    ·rw [if_neg h2,List.getElem?_append_right (by simp; omega),List.getElem?_drop];simp only [List.length_singleton];rw [show off+xs.length+1+(j-(off+xs.length)-1)=j by omega];simp
  have hsz:cur'.size=cur.size:=by rw [hcur']; simp only [List.size_toArray,List.length_append,List.length_take,List.length_drop,Array.length_toList,List.length_singleton]; omega
  have hrun:(Builtin.append_ #[35,35] 35 #[.slice (some ⟨g,off,none⟩) xs.length cap,.slice (some a) 1 1]).run Tryz.prog W=.ok (.slice (some ⟨g,off,none⟩) (xs.length+1) cap) (W.setRow g cur'):=by
   simp [Builtin.append_,run_underlying Tryz.underlying35,sizeOf,typeInfo,hi,Builtin.lenOf,hroom,hf,hz1,Addr.add_lit,hst]
  refine ⟨_,_,hrun,⟨g,off,cap,cur',by simp,h1,setRow_heap W g cur _ 3 _ h2,by simpa using hroom,h4,Or.inr ⟨by omega,by simp; omega⟩,fun i x hx=>?_⟩,g,cur,rfl,h2,⟨rfl,rfl,rfl,by simp [World.setRow],fun k _ hk=>setRow_other W g k _ (fun e=>hk (by rw [e]))⟩,Or.inr (by omega)⟩;rw [hget];by_cases hi2:i=xs.length
  ·subst hi2;rw [if_pos rfl];simp at hx;rw [hx]
  ·have hil:i<xs.length:=by have:=(List.getElem?_eq_some_iff.1 hx).1; simp at this; omega
   rw [if_neg (by omega)];rw [List.getElem?_append_left hil] at hx;exact h6 i x hx
 ·have holds:∀ j u,(xs.map fun (x:Nat)=>Value.int .i64 (x:Nat))[j]? = some u->W.cell? ((⟨g,off,none⟩:Addr).add j)=some u:=by
   intro j u hj;rw [List.getElem?_map] at hj;cases hx:xs[j]? with
   | none=>rw [hx] at hj; cases hj
   | some x =>
    rw [hx] at hj;cases hj;rw [Addr.add_lit];exact row_cell h2 (h6 j x hx)
  have hr:=run_append_grow (P:=Tryz.prog) W 35 35 3 i0 (.int .i64 0) Tryz.underlying35 hi hz0 ⟨g,off,none⟩ xs.length cap (xs.map fun (x:Nat)=>Value.int .i64 (x:Nat)) (by simp [hz1]) holds a 1 1 [.int .i64 (y:Nat)] (by rw [hz1]; rfl) hnews (by omega) (by omega) (by rw [hz2]; exact growslice_fits (by omega) (by omega));have hge:=grownCap_ge W (xs.length+1) cap 3;have hcm:grownCap W (xs.length+1) cap 3<=maxLen:=grownCap_le_maxLen W (xs.length+1) cap 3 (by unfold maxLen; omega);have hg0:W.grownBy (W.drew.alloc (.cells ((xs.map fun (x:Nat)=>Value.int .i64 (x:Nat)).toArray++#[.int .i64 (y:Nat)]++Builtin.zeroCells (Value.int .i64 0).cells (grownCap W (xs.length+1) cap 3-(xs.length+1))) 3)) none:=⟨rfl,rfl,rfl,by simp,fun k hk _=>heap_alloc_old W.drew _ (h:=hk)⟩;refine ⟨_,_,hr,⟨W.heap.size,0,grownCap W (xs.length+1) cap 3,_,by simp,hB,heap_alloc_new W.drew _,by simpa using hge,hcm,Or.inr ⟨?_,by simp⟩,fun i x hx=>?_⟩,g,cur,rfl,h2,⟨hg0.os,hg0.tape,hg0.output,hg0.size,fun k hk _=>hg0.block k hk (by simp)⟩,Or.inl hg0⟩
  ·simp only [Array.size_append,List.size_toArray,size_zeroCells,Value.cells,List.length_map,Array.size_singleton];simp;omega
  ·rw [Nat.zero_add];have hil:=(List.getElem?_eq_some_iff.1 hx).1;rw [Array.getElem?_append_left (by simpa using hil)];have:((xs.map fun (x:Nat)=>Value.int .i64 (x:Nat)).toArray++#[.int .i64 (y:Nat)])=((xs++[y]).map fun (x:Nat)=>Value.int .i64 (x:Nat)).toArray:=by simp
   rw [this,List.getElem?_toArray,List.getElem?_map,hx]
   rfl
end
section
open Go.RowKit Go.Proofs Go.Shelf
attribute [local go_sem] Oper.semAt_some
def succTo (g:List Ty) (C:Nat->Nat) (rs:List Reveal) (k c:Nat):List Nat:=((List.range k).map fun t=>if C t=c then (upsL g rs t).map C else []).flatten
def succC (g:List Ty) (C:Nat->Nat) (rs:List Reveal) (c:Nat):List Nat:=succTo g C rs g.length c
theorem succTo_hit {g:List Ty} {C:Nat->Nat} {rs:List Reveal} {k c:Nat} (h:C k=c):succTo g C rs (k+1) c=succTo g C rs k c++(upsL g rs k).map C:=by
 unfold succTo; rw [List.range_succ,List.map_append,List.flatten_append]; simp [h]
theorem succTo_miss {g:List Ty} {C:Nat->Nat} {rs:List Reveal} {k c:Nat} (h:¬ C k=c):succTo g C rs (k+1) c=succTo g C rs k c:=by
 unfold succTo; rw [List.range_succ,List.map_append,List.flatten_append]; simp [h]
theorem succTo_prefix (g:List Ty) (C:Nat->Nat) (rs:List Reveal) (c:Nat):∀ n k,k<=n->succTo g C rs k c <+: succTo g C rs n c
 | 0,k,h=>by rw [Nat.le_zero.1 h]; exact List.prefix_refl _
 | n+1,k,h=>by
  by_cases hk:k=n+1
  ·rw [hk]; exact List.prefix_refl _
  ·refine (succTo_prefix g C rs c n k (by omega)).trans ?_;by_cases hc:C n=c
   ·rw [succTo_hit hc]; exact List.prefix_append _ _
   ·rw [succTo_miss hc]; exact List.prefix_refl _
structure VisW (w0 W:World) (bst bv bvis bs n vb:Nat):Prop where
 ext:Ext w0 W
 lo:w0.heap.size<=bs
 st:W.heap[bst]? = some (.cells #[.slice (some ⟨bs,0,none⟩) n n] 35 (0,0))
 v:W.heap[bv]? = some (.cells #[.pointer (some ⟨vb,0,none⟩)] 28 (0,0))
 vis:W.heap[bvis]? = some (.cells #[.func (.func 122) #[] #[.pointer (some ⟨bst,0,none⟩),.pointer (some ⟨bv,0,none⟩),.pointer (some ⟨bvis,0,none⟩)]] 104 (0,0))
 ne:bst≠bs/\bv≠bs/\bvis≠bs
theorem VisW.kept {w0 W W':World} {bst bv bvis bs n vb:Nat} (h:VisW w0 W bst bv bvis bs n vb) (hg:W.grownBy W' (some bs)):VisW w0 W' bst bv bvis bs n vb:=by
 refine ⟨(h.ext.grown hg h.ext.size (fun k e=>by cases e; exact h.lo)),h.lo,?_,?_,?_,h.ne⟩
 ·exact (hg.block _ (row_lt h.st) (fun e=>h.ne.1 (Option.some.inj e))).trans h.st
 ·exact (hg.block _ (row_lt h.v) (fun e=>h.ne.2.1 (Option.some.inj e))).trans h.v
 ·exact (hg.block _ (row_lt h.vis) (fun e=>h.ne.2.2 (Option.some.inj e))).trans h.vis
def StW (W:World) (bs n:Nat) (st:Nat->Nat):Prop:=RowI W bs n fun i=>(st i:Int)
theorem StW.set {W:World} {bs n c v:Nat} {st:Nat->Nat} (h:StW W bs n st):StW (W.setCell ⟨bs,c,none⟩ (.int .i64 (v:Nat))) bs n (upd st c v):=by
 unfold StW RowI at h ⊢;rw [row_set h]
 congr 2
 apply Array.ext_getElem?;intro i;by_cases hi:i<n
 ·by_cases hic:i=c
  ·subst hic;simp [hi,upd]
  ·rw [Array.getElem?_setIfInBounds_ne (fun e=>hic e.symm)];simp [hi,upd,hic]
 ·rw [Array.getElem?_eq_none (by simp; omega),Array.getElem?_eq_none (by simp; omega)]
theorem StW.at {W:World} {bs n:Nat} {st:Nat->Nat} (h:StW W bs n st) {i:Nat} (hi:i<n):W.cell? ⟨bs,i,none⟩=some (.int .i64 (st i:Nat)):=row_cell h (by simp [hi])
theorem StW.free {W:World} {bs n:Nat} {st:Nat->Nat} (h:StW W bs n st) (i:Nat):W.frozen? ⟨bs,i,none⟩=false:=row_free h i
end
end Go.Proofs.YtjffkeoajkhbmaaGreat
