/- sub.Join. Words, spans, Assign. sub.Assign. Questions to no environment. sub.to: the steps by a rule to all types that are as is asked. -/
import Derived.Sort.CutIn
import Derived.Test.YtjffkeoajkhbmaaGreatOX8
import Derived.Test.YtjffkeoajkhbmaaGreatOX11
namespace Go.Proofs.YtjffkeoajkhbmaaGreat
set_option linter.unusedSimpArgs false
set_option linter.unusedVariables false
set_option maxRecDepth 100000
set_option maxHeartbeats 8000000
section
open Go.RowKit Go.Proofs
theorem join51 (b3 b4 b5 vb:Nat) (av:Value) (n a b t:Nat) (S:List Nat) (ha:a<S.length) (hb:b<S.length) (ht:t<448) (w:World)
  (h3:w.cell? ⟨b3,0,none⟩=some (.pointer (some ⟨vb,0,none⟩))) (h4:w.cell? ⟨b4,0,none⟩=some (.int .i64 a)) (h5:w.cell? ⟨b5,0,none⟩=some (.int .i64 b))
  (c4:w.cell? ⟨vb,4,none⟩=some av) (hab:BitsW w av S) :
  Calls Tryz.prog 51 #[.int .i64 t,.pointer (some ⟨b3,0,none⟩),.pointer (some ⟨b4,0,none⟩),.pointer (some ⟨b5,0,none⟩)] w fun e w'=>e=.returned (.bool ((nth S a).testBit t&&(nth S b).testBit t))/\Ext w w':=by
 obtain ⟨aa,ac,rfl,_⟩:=id hab;obtain ⟨sb,so,hao,hsl,hba⟩:=BitsW.at hab ha;obtain ⟨sb2,so2,hbo,_,hbb⟩:=BitsW.at hab hb;cases hao;cases hbo;have hbd:=(SlW.bound hab).2;have Ha:=dh hba; clear hba;have Hb:=dh hbb; clear hbb hab
 go_enter Tryz.func51,Tryz.ntmps51
 go_upto_region 1 with (fail);refine Zr 99 ?_;change wpE _ _ _ _ _ _ _ _ (World.drew _);refine Zc 0 h3 ?_;refine Zg 1 ?_;refine Zg 2 ?_;refine Zc 3 c4 ?_;refine Zc 4 h4 ?_;refine Zg 5 ?_;refine Zg 6 ?_;refine Zo 7 fun K hK=>?_;go_simp;refine (has48 _ _ _ _ ht _ (BitsAt.mono (Ext.drew _) Ha.out)).mono ?_;rintro e w2 ⟨rfl,rfl⟩;refine hK _ _ (Ext.refl _) ?_; clear hK K;have h3:=(Ext.drew w).cell h3;have h5:=(Ext.drew w).cell h5;have c4:=(Ext.drew w).cell c4;cases hv:(nth S a).testBit t
 ·
  refine Zg 8 ?_;refine Zs 9 ?_;refine Zs 10 ?_;refine Zs 11 ?_;refine Zs 12 ?_;refine Zs 13 ?_;refine Zs 14 ?_;refine Zs 15 ?_;refine Zs 16 ?_;refine Zg 17 ?_;refine Zg 18 ?_;refine Zd ?_;go_wp2_with fail;go_ret;exact ⟨ret_bool (by rw [hv]; rfl),Ext.drew _⟩
 ·
  refine Zg 8 ?_;refine Zc 9 h3 ?_;refine Zg 10 ?_;refine Zg 11 ?_;refine Zc 12 c4 ?_;refine Zc 13 h5 ?_;refine Zg 14 ?_;refine Zg 15 ?_;refine Zo 16 fun K hK=>?_;go_simp;refine (has48 _ _ _ _ ht _ (BitsAt.mono (Ext.drew _) Hb.out)).mono ?_;rintro e w2 ⟨rfl,rfl⟩;refine hK _ _ (Ext.refl _) ?_; clear hK K;refine Zg 17 ?_;refine Zg 18 ?_;refine Zd ?_;go_wp2_with fail;go_ret;exact ⟨ret_bool (by rw [hv,Bool.true_and]),Ext.drew _⟩
theorem enters51:Enters Tryz.prog 51:=enters_of Tryz.func51 (by kernel_rfl) rfl
theorem join53 (b3 b4 vb:Nat) (av:Value) (a t:Nat) (S:List Nat) (ha:a<S.length) (ht:t<448) (w:World)
  (h3:w.cell? ⟨b3,0,none⟩=some (.pointer (some ⟨vb,0,none⟩))) (h4:w.cell? ⟨b4,0,none⟩=some (.int .i64 a))
  (c4:w.cell? ⟨vb,4,none⟩=some av) (hab:BitsW w av S) :
  Calls Tryz.prog 53 #[.int .i64 t,.pointer (some ⟨b3,0,none⟩),.pointer (some ⟨b4,0,none⟩)] w fun e w'=>e=.returned (.bool (!(nth S a).testBit t))/\Ext w w':=by
 obtain ⟨aa,ac,rfl,_⟩:=id hab;obtain ⟨sb,so,rfl,hsl,hba⟩:=BitsW.at hab ha;have hbd:=(SlW.bound hab).2;have Ha:=dh hba; clear hba hab
 go_enter Tryz.func53,Tryz.ntmps53
 go_upto_region 1 with (fail);refine Zr 99 ?_;change wpE _ _ _ _ _ _ _ _ (World.drew _);refine Zc 0 h3 ?_;refine Zg 1 ?_;refine Zg 2 ?_;refine Zc 3 c4 ?_;refine Zc 4 h4 ?_;refine Zg 5 ?_;refine Zg 6 ?_;refine Zo 7 fun K hK=>?_;go_simp;refine (has48 _ _ _ _ ht _ (BitsAt.mono (Ext.drew _) Ha.out)).mono ?_;rintro e w2 ⟨rfl,rfl⟩;refine hK _ _ (Ext.refl _) ?_; clear hK K;refine Zg 8 ?_;refine Zg 9 ?_;refine Zd ?_;go_wp2_with fail;go_ret;exact ⟨rfl,Ext.drew _⟩
theorem enters53:Enters Tryz.prog 53:=enters_of Tryz.func53 (by kernel_rfl) rfl
def commonL (n:Nat) (S:List Nat) (a b:Nat):List Nat:=(List.range n).filter fun i=>(nth S a).testBit i&&(nth S b).testBit i
def joinL (n:Nat) (S:List Nat) (a b:Nat):Option Nat:=(commonL n S a b).find? fun t=>(commonL n S a b).all fun u=>(nth S t).testBit u
def joinR (n:Nat) (S:List Nat) (a b:Int):Int × Bool × Int :=
 if askedR n [a,b]=0 then (match joinL n S a.toNat b.toNat with | some t=>((t:Int),true,0) | none=>(0,false,0)) else (0,false,1)
theorem common_mem {n:Nat} {S:List Nat} {a b i:Nat} (h:i∈commonL n S a b):i<n:=by
 unfold commonL at h;exact List.mem_range.1 (List.mem_filter.1 h).1
theorem common_len (n:Nat) (S:List Nat) (a b:Nat):(commonL n S a b).length<=n:=by
 have:=List.length_filter_le (fun i=>(nth S a).testBit i&&(nth S b).testBit i) (List.range n)
 simpa [commonL] using this
theorem nth_nums {l:List Nat} {k:Nat} (h:k<l.length):nth (numsOf l) k=((nth l k:Nat):Int):=by
 rw [nth_eq (by simpa [numsOf] using h),nth_eq h];simp [numsOf]
theorem find_nth_some {l:List Nat} {p:Nat->Bool} {k:Nat} (hk:k<l.length) (h1:p (nth l k)=true) (h:∀ j,j<k->p (nth l j)=false):l.find? p=some (nth l k):=by
 rw [List.find?_eq_some_iff_getElem];exact ⟨h1,k,hk,(nth_eq hk).symm,fun j hj=>by rw [<- nth_eq (by omega)]; simp [h j hj]⟩
theorem find_nth_none {l:List Nat} {p:Nat->Bool} (h:∀ j,j<l.length->p (nth l j)=false):l.find? p=none:=by
 rw [List.find?_eq_none];intro x hx;obtain ⟨i,hi,rfl⟩:=List.getElem_of_mem hx;rw [<- nth_eq hi,h i hi]; simp
theorem join21 (vb:Nat) (g:List Ty) (C:Nat->Nat) (rs:List Reveal) (S:List Nat) (gv cv rv av:Value) (hn:g.length<=400) (hS:S.length=g.length) (a b:Int) (w:World) (hv:EnvW w vb g C rs S gv cv rv av)
  (hx:-9223372036854775808<=a/\a<=9223372036854775807) (hy:-9223372036854775808<=b/\b<=9223372036854775807) :
  Calls Tryz.prog 21 #[.pointer (some ⟨vb,0,none⟩),.int .i64 a,.int .i64 b] w fun e w' =>
   e=.returned (.tuple #[.int .i64 (joinR g.length S a b).1,.bool (joinR g.length S a b).2.1,.int .i64 (joinR g.length S a b).2.2])/\Ext w w':=by
 obtain ⟨ga,gc,rfl,_⟩:=id hv.gr
 go_enter Tryz.func21,Tryz.ntmps21
 go_upto_region 1 with (fail);obtain ⟨W,hW⟩:∃ W:World,W=((w.alloc (.cells #[.pointer (some ⟨vb,0,none⟩)] 28)).alloc (.cells #[.int .i64 a] 3)).alloc (.cells #[.int .i64 b] 3):=⟨_,rfl⟩;have hEW:Ext w W:=by rw [hW]; exact by (repeat (first | exact Ext.refl _ | (refine Ext.trans ?_ (Hid.out (by assumption))) | (refine Ext.trans ?_ (Ext.alloc _ _)) | (refine Ext.trans ?_ (Ext.drew _)) | (refine below_drewN ?_ _)))
 have h3:W.cell? ⟨w.heap.size,0,none⟩=some (.pointer (some ⟨vb,0,none⟩)):=by rw [hW]; exact (Ext.alloc _ _).cell ((Ext.alloc _ _).cell (cell_new1 _ _ _))
 have h4:W.cell? ⟨w.heap.size+1,0,none⟩=some (.int .i64 a):=by rw [hW]; exact (Ext.alloc _ _).cell (by have:=cell_new1 (w.alloc (.cells #[.pointer (some ⟨vb,0,none⟩)] 28)) (.int .i64 a) 3; rwa [World.size_alloc] at this)
 have h5:W.cell? ⟨w.heap.size+1+1,0,none⟩=some (.int .i64 b):=by
  rw [hW]; have:=cell_new1 ((w.alloc (.cells #[.pointer (some ⟨vb,0,none⟩)] 28)).alloc (.cells #[.int .i64 a] 3)) (.int .i64 b) 3; rwa [World.size_alloc,World.size_alloc] at this
 rw [<- hW];clear hW;have hlb:w.heap.size+1+1<W.heap.size:=cell_lt h5;have hcall:=dh (asked47 vb ga g.length gc hn _ 2 2 [a,b] _ ((hEW.trans (Ext.alloc _ _)).cell hv.c0) (ints_two W a b hx hy));have Hv:=dh hv; clear hv;have HEW:=dh hEW; clear hEW;rcases askedR_cases g.length [a,b] with ⟨h0,hin⟩ | ⟨h0,_⟩
 ·rw [h0] at hcall;have h1:=hin a (by simp);have h2:=hin b (by simp);obtain ⟨an,rfl⟩:∃ an:Nat,a=an:=⟨a.toNat,(Int.toNat_of_nonneg h1.1).symm⟩;obtain ⟨bn,rfl⟩:∃ bn:Nat,b=bn:=⟨b.toNat,(Int.toNat_of_nonneg h2.1).symm⟩;have Hs1:=dh (show ∀ k,k<(commonL g.length S an bn).length->((commonL g.length S an bn).all fun u=>(nth S (nth (commonL g.length S an bn) k)).testBit u)=true ->
    (∀ j,j<k->((commonL g.length S an bn).all fun u=>(nth S (nth (commonL g.length S an bn) j)).testBit u)=false)->joinR g.length S an bn=(((nth (commonL g.length S an bn) k:Nat):Int),true,0) from fun k hk h1 h2=>by
   unfold joinR;rw [if_pos h0];simp only [Int.toNat_natCast,joinL];rw [find_nth_some (p:=fun t=>(commonL g.length S an bn).all fun u=>(nth S t).testBit u) hk h1 h2])
  have Hs2:=dh (show (∀ j,j<(commonL g.length S an bn).length->((commonL g.length S an bn).all fun u=>(nth S (nth (commonL g.length S an bn) j)).testBit u)=false)->joinR g.length S an bn=(0,false,0) from fun h2=>by
   unfold joinR;rw [if_pos h0];simp only [Int.toNat_natCast,joinL];rw [find_nth_none (p:=fun t=>(commonL g.length S an bn).all fun u=>(nth S t).testBit u) h2])
  have hal:an<S.length:=by omega
  have hbl:bn<S.length:=by omega
  clear h0 hin h1 h2;go_wp2_with fail;refine hcall.out.mono ?_;rintro e w1 ⟨rfl,hE⟩;have hE':=(Ext.alloc W (.cells #[.int .i64 an,.int .i64 bn] 3)).trans hE;have hv1:=EnvW.mono (HEW.out.trans hE') Hv.out;have h3:=hE'.cell h3;have h4:=hE'.cell h4;have h5:=hE'.cell h5;have HE:=dh (HEW.out.trans hE'); clear hE hE';have c0:=hv1.c0;have Hv1:=dh hv1; clear hv1;go_wp2_with fail;refine (list50 51 enters51 #[] #[.pointer (some ⟨w.heap.size,0,none⟩),.pointer (some ⟨w.heap.size+1,0,none⟩),.pointer (some ⟨w.heap.size+1+1,0,none⟩)] ga g.length gc hn (fun i=>(nth S an).testBit i&&(nth S bn).testBit i) w1
   (fun k w2 hk hE=>join51 _ _ _ vb av g.length an bn k S hal hbl (by omega) w2 (hE.cell h3) (hE.cell h4) (hE.cell h5) (hE.cell Hv1.out.c4) (BitsW.mono hE Hv1.out.ab))).mono ?_
  rintro e w2 ⟨v,rfl,hi,hE,-⟩;have hi:Ints w2 v (numsOf (commonL g.length S an bn)):=hi;have h3:=hE.cell h3;have Hv2:=dh (EnvW.mono hE Hv1.out);have HE2:=dh (HE.out.trans hE); clear hE;obtain ⟨ca,cc,rfl,_⟩:=id hi;have hbd:=(SlW.bound hi).2;have hlen:(numsOf (commonL g.length S an bn)).length=(commonL g.length S an bn).length:=by simp [numsOf]
  have hcl:=common_len g.length S an bn;rw [hlen] at hbd hi ⊢;have Hi:=dh hi; clear hi hlen;have Hmem:=dh (show ∀ i,i<(commonL g.length S an bn).length->nth (commonL g.length S an bn) i<g.length from fun i hi=>common_mem (nth_mem hi));obtain ⟨L,hL⟩:∃ L,L=commonL g.length S an bn:=⟨_,rfl⟩;rw [<- hL] at hbd hcl Hi Hmem Hs1 Hs2 ⊢;have HL:=dh hL; clear hL;go_upto_region 6 with (fail);go_loopw [12,30] (fun _ i wr=>∃ k:Nat,k<=L.length/\i=.int .i64 k/\Hid (Ext w2 wr/\∀ j,j<k->(L.all fun u=>(nth S (nth L j)).testBit u)=false)) (fun _ i _=>L.length-(intOf i).toNat)
  case atStart=>exact ⟨0,Nat.zero_le _,rfl,Ext.refl _,fun j hj=>absurd hj (Nat.not_lt_zero _)⟩
  case round =>
   obtain ⟨k,hk,rfl,hH⟩:=hrel;have HE3:=dh hH.out.1;have Hno:=dh hH.out.2;clear hH;by_cases hlt:k<L.length
   ·have hi:=Ints.mono HE3.out Hi.out;have h3r:=HE3.out.cell h3;obtain ⟨lb,lo,hlo,hll,d0,_⟩:=Ints.at hi hlt;rw [nth_nums hlt] at d0;have hmk:=Hmem.out k hlt;have hcf:=dh (containsFunc52_p 53 enters53 #[.pointer (some ⟨w.heap.size,0,none⟩),.pointer (some ⟨wr.heap.size,0,none⟩)] ca L.length cc (by omega) (fun j _=>.int .i64 ((nth L j:Nat):Int)) (wr.alloc (.cells #[.int .i64 ((nth L k:Nat):Int)] 3)) (fun j=>!(nth S (nth L k)).testBit (nth L j))
     (fun w4 hE4 j hj=>by
      obtain ⟨b,off,ha,_,hc,_⟩:=Ints.at (Ints.mono ((Ext.alloc _ _).trans hE4) hi) hj;rw [nth_nums hj] at hc;exact ⟨b,off,ha,hc⟩)
     (fun j w4 hj hE4=>join53 _ _ vb av (nth L k) (nth L j) S (by omega) (by have:=Hmem.out j hj; omega) w4 (((Ext.alloc _ _).trans hE4).cell h3r) (hE4.cell (cell_new1 _ _ _))
      (((HE3.out.trans (Ext.alloc _ _)).trans hE4).cell Hv2.out.c4) (BitsW.mono ((HE3.out.trans (Ext.alloc _ _)).trans hE4) Hv2.out.ab)))
    have hall:(!(List.range L.length).any fun j=>!(nth S (nth L k)).testBit (nth L j))=L.all fun u=>(nth S (nth L k)).testBit u:=by
     rw [any_range L (fun u=>!(nth S (nth L k)).testBit u),List.not_any_eq_all_not]; simp
    subst hlo;clear hi;cases hany:(List.range L.length).any fun j=>!(nth S (nth L k)).testBit (nth L j)
    ·rw [hany] at hall hcf;have Hr:=dh (Hs1.out k hlt hall.symm Hno.out);clear hany hall;go_wp2_with fail;refine hcf.out.mono ?_;rintro e w4 ⟨rfl,hE4⟩;have f0:=hE4.cell (cell_new1 wr (.int .i64 ((nth L k:Nat):Int)) 3);have HE4:=dh ((HE2.out.trans HE3.out).trans ((Ext.alloc _ _).trans hE4)); clear hE4;go_wp2_with fail;go_ret3;exact ⟨by rw [Hr.out]; rfl,HE4.out⟩
    ·rw [hany] at hall hcf;have Hr:=dh hall;clear hany hall;go_wp2_with fail;refine hcf.out.mono ?_;rintro e w4 ⟨rfl,hE4⟩;have HE4:=dh (HE3.out.trans ((Ext.alloc _ _).trans hE4)); clear hE4;go_wp2_with fail;go_roundw
     case rel =>
      refine ⟨k+1,by omega,by go_num,HE4.out,fun j hj=>?_⟩;by_cases hjk:j=k
      ·rw [hjk]; exact Hr.out.symm
      ·exact Hno.out j (by omega)
     case measure=>simp [intOf]; omega
   ·have:k=L.length:=by omega
    subst this;have Hr:=dh (Hs2.out Hno.out);go_wp2_with fail;go_ret3;exact ⟨by rw [Hr.out]; rfl,HE2.out.trans HE3.out⟩
 ·rw [h0] at hcall;have Hs:=dh (show joinR g.length S a b=(0,false,1) by unfold joinR; rw [if_neg (by rw [h0]; decide)]);clear h0;go_wp2_with fail;refine hcall.out.mono ?_;rintro e w1 ⟨rfl,hE⟩;have HE:=dh (HEW.out.trans ((Ext.alloc _ _).trans hE)); clear hE;go_wp2_with fail;go_ret3;exact ⟨by rw [Hs.out]; rfl,HE.out⟩
end
section
open Go.RowKit Go.Proofs
def isWordB (k:Int):Bool:=k==1||k==2||k==3
theorem isWord62 (ga:Option Addr) (n gc:Nat) (cv:Value) (g:List Ty) (t:Nat) (w:World) (hg:Graph w (.slice ga n gc) g) (ht:t<n) (hc:∃ ca cn cc,cv=.slice ca cn cc) :
  Calls Tryz.prog 62 #[.agg #[.slice ga n gc,cv],.int .i64 t] w fun e w'=>e=.returned (.bool (isWordB (nth g t).kind))/\Ext w w':=by
 obtain ⟨ca,cn,cc,rfl⟩:=hc;have hb:=(SlW.bound hg).2;obtain ⟨b,off,pa,pl,pc,ma,ml,mc,oa,ol,oc,rfl,hlt2,hT⟩:=Graph.at hg ht;have c0:=hT.c0;clear hT;have Hg:=dh hg; clear hg;have Hs:=dh (show isWordB (nth g t).kind=((nth g t).kind==1||(nth g t).kind==2||(nth g t).kind==3) from rfl);obtain ⟨k,hk⟩:∃ k,k=(nth g t).kind:=⟨_,rfl⟩;rw [<- hk] at c0 Hs ⊢;clear hk;cases h1:(k==1)
 ·cases h2:(k==2)
  ·cases h3:(k==3)
   all_goals go_enter Tryz.func62,Tryz.ntmps62
   all_goals go_wp2
   all_goals go_ret
   all_goals exact ⟨ret_bool (by rw [Hs.out,h1,h2,h3]; rfl),by (repeat (first | exact Ext.refl _ | (refine Ext.trans ?_ (Hid.out (by assumption))) | (refine Ext.trans ?_ (Ext.alloc _ _)) | (refine Ext.trans ?_ (Ext.drew _)) | (refine below_drewN ?_ _)))⟩
  ·go_enter Tryz.func62,Tryz.ntmps62
   go_wp2;go_ret;exact ⟨ret_bool (by rw [Hs.out,h1,h2]; rfl),by (repeat (first | exact Ext.refl _ | (refine Ext.trans ?_ (Hid.out (by assumption))) | (refine Ext.trans ?_ (Ext.alloc _ _)) | (refine Ext.trans ?_ (Ext.drew _)) | (refine below_drewN ?_ _)))⟩
 ·go_enter Tryz.func62,Tryz.ntmps62
  go_wp2;go_ret;exact ⟨ret_bool (by rw [Hs.out,h1]; rfl),by (repeat (first | exact Ext.refl _ | (refine Ext.trans ?_ (Hid.out (by assumption))) | (refine Ext.trans ?_ (Ext.alloc _ _)) | (refine Ext.trans ?_ (Ext.drew _)) | (refine below_drewN ?_ _)))⟩
def spanR (t:Ty):Int × Int × Bool:=if t.kind=1 then (-1000000000,1000000000,true) else if t.kind=3 then (t.low,t.high,true) else (0,0,false)
theorem span61 (vb:Nat) (ga:Option Addr) (n gc:Nat) (g:List Ty) (t:Nat) (w:World) (h0:w.cell? ⟨vb,0,none⟩=some (.slice ga n gc)) (hg:Graph w (.slice ga n gc) g) (ht:t<n) :
  Calls Tryz.prog 61 #[.pointer (some ⟨vb,0,none⟩),.int .i64 t] w fun e w'=>e=.returned (.tuple #[.int .i64 (spanR (nth g t)).1,.int .i64 (spanR (nth g t)).2.1,.bool (spanR (nth g t)).2.2])/\Ext w w':=by
 have hb:=(SlW.bound hg).2;obtain ⟨b,off,pa,pl,pc,ma,ml,mc,oa,ol,oc,rfl,hlt2,hT⟩:=Graph.at hg ht;obtain ⟨c0,c1,c2,c3,c4,c5,c6,c7,c8,c9,_,_,_,_⟩:=hT;clear hg;by_cases h1:(nth g t).kind=1
 ·have Hs:=dh (show spanR (nth g t)=(-1000000000,1000000000,true) by unfold spanR; rw [if_pos h1]);rw [h1] at c0;clear h1
  go_enter Tryz.func61,Tryz.ntmps61
  go_wp2;go_ret3;exact ⟨by rw [Hs.out]; rfl,by (repeat (first | exact Ext.refl _ | (refine Ext.trans ?_ (Hid.out (by assumption))) | (refine Ext.trans ?_ (Ext.alloc _ _)) | (refine Ext.trans ?_ (Ext.drew _)) | (refine below_drewN ?_ _)))⟩
 ·have hb1:((nth g t).kind==1)=false:=by rw [beq_eq_false_iff_ne]; exact h1
  by_cases h3:(nth g t).kind=3
  ·have Hs:=dh (show spanR (nth g t)=((nth g t).low,(nth g t).high,true) by unfold spanR; rw [if_neg h1,if_pos h3]);rw [h3] at c0;clear h1 h3 hb1
   go_enter Tryz.func61,Tryz.ntmps61
   go_upto_region 6 with (fail)
   go_quiet (fail)
   go_wp2;go_ret3;exact ⟨by rw [Hs.out]; rfl,below_drewN (by exact by (repeat (first | exact Ext.refl _ | (refine Ext.trans ?_ (Hid.out (by assumption))) | (refine Ext.trans ?_ (Ext.alloc _ _)) | (refine Ext.trans ?_ (Ext.drew _)) | (refine below_drewN ?_ _)))) nq⟩
  ·have Hs:=dh (show spanR (nth g t)=(0,0,false) by unfold spanR; rw [if_neg h1,if_neg h3]);have hb3:((nth g t).kind==3)=false:=by rw [beq_eq_false_iff_ne]; exact h3
   clear h1 h3
   go_enter Tryz.func61,Tryz.ntmps61
   go_wp2;go_ret3;exact ⟨by rw [Hs.out]; rfl,by (repeat (first | exact Ext.refl _ | (refine Ext.trans ?_ (Hid.out (by assumption))) | (refine Ext.trans ?_ (Ext.alloc _ _)) | (refine Ext.trans ?_ (Ext.drew _)) | (refine below_drewN ?_ _)))⟩
end
section
open Go.RowKit Go.Proofs
def assignR (g:List Ty) (S:List Nat) (to_ from_:Int):Int × Int × Int × Int :=
 if askedR g.length [to_,from_]=0 then
  (if (nth S from_.toNat).testBit to_.toNat then (1,0,0,0)
  else if (spanR (nth g to_.toNat)).2.2&&(spanR (nth g from_.toNat)).2.2&&decide ((spanR (nth g to_.toNat)).1<=(spanR (nth g from_.toNat)).2.1)&&decide ((spanR (nth g from_.toNat)).1<=(spanR (nth g to_.toNat)).2.1) then (2,(spanR (nth g to_.toNat)).1,(spanR (nth g to_.toNat)).2.1,0)
  else if !isWordB (nth g to_.toNat).kind&&!isWordB (nth g from_.toNat).kind&&(nth S to_.toNat).testBit from_.toNat then (3,0,0,0)
  else (0,0,0,41))
 else (0,0,0,1)
def AsBox (w:World) (b:Nat) (k l h:Int):Prop:=w.heap[b]? = some (Obj.cells #[.int .u8 k,.int .i64 l,.int .i64 h] 56 (0,0))
theorem AsBox.new (w:World):AsBox (w.alloc (.cells #[.int .u8 0,.int .i64 0,.int .i64 0] 56)) w.heap.size 0 0 0:=heap_alloc_new w _
theorem AsBox.lt {w:World} {b:Nat} {k l h:Int} (hb:AsBox w b k l h):b<w.heap.size:=(Array.getElem?_eq_some_iff.1 hb).1
theorem AsBox.ext {w w':World} {b:Nat} {k l h:Int} (hb:AsBox w b k l h) (hE:Ext w w'):AsBox w' b k l h:=(hE.block b hb.lt).trans hb
theorem AsBox.cell {w:World} {b:Nat} {k l h:Int} (hb:AsBox w b k l h) {j:Nat} {v:Value} (hj:(#[.int .u8 k,.int .i64 l,.int .i64 h]:Array Value)[j]? = some v):w.cell? ⟨b,j,none⟩=some v:=cell_of_heap hb hj
theorem AsBox.free {w:World} {b:Nat} {k l h:Int} (hb:AsBox w b k l h) (j:Nat):w.frozen? ⟨b,j,none⟩=false:=by
 unfold World.frozen?;rw [show w.heap[(⟨b,j,none⟩:Addr).block]? = _ from hb];simp
theorem AsBox.set3 {w:World} {b:Nat} {k l h:Int} (hb:AsBox w b k l h) (k' l' h':Int):AsBox (((w.setCell ⟨b,0,none⟩ (.int .u8 k')).setCell ⟨b,1,none⟩ (.int .i64 l')).setCell ⟨b,2,none⟩ (.int .i64 h')) b k' l' h':=by
 unfold AsBox World.setCell;simp only [Array.getElem?_modify,if_true];rw [show w.heap[b]? = _ from hb];simp
theorem ext_set3 {w w1:World} {b:Nat} (hE:Ext w w1) (hb:w.heap.size<=b) (x y z:Value):Ext w (((w1.setCell ⟨b,0,none⟩ x).setCell ⟨b,1,none⟩ y).setCell ⟨b,2,none⟩ z) :=
 Below.setCell (Below.setCell (Below.setCell hE hb _) hb _) hb _
theorem assign28 (vb:Nat) (g:List Ty) (C:Nat->Nat) (rs:List Reveal) (S:List Nat) (gv cv rv av:Value) (hn:g.length<=400) (hS:S.length=g.length) (a b:Int) (w:World) (hv:EnvW w vb g C rs S gv cv rv av)
  (hx:-9223372036854775808<=a/\a<=9223372036854775807) (hy:-9223372036854775808<=b/\b<=9223372036854775807) :
  Calls Tryz.prog 28 #[.pointer (some ⟨vb,0,none⟩),.int .i64 a,.int .i64 b] w fun e w' =>
   e=.returned (.tuple #[.agg #[.int .u8 (assignR g S a b).1,.int .i64 (assignR g S a b).2.1,.int .i64 (assignR g S a b).2.2.1],.int .i64 (assignR g S a b).2.2.2])/\Ext w w':=by
 have hE0:=(Ext.alloc w (.cells #[.int .u8 0,.int .i64 0,.int .i64 0] 56)).trans (Ext.alloc (w.alloc (.cells #[.int .u8 0,.int .i64 0,.int .i64 0] 56)) (.cells #[.int .i64 a,.int .i64 b] 3));have hl:=ints_two (w.alloc (.cells #[.int .u8 0,.int .i64 0,.int .i64 0] 56)) a b hx hy;rw [World.size_alloc] at hl;obtain ⟨ga,gc,rfl,_⟩:=id hv.gr;have hcall:=dh (asked47 vb ga g.length gc hn _ 2 2 [a,b] _ (hE0.cell hv.c0) hl);have HB0:=dh (AsBox.ext (AsBox.new w) (Ext.alloc _ (.cells #[.int .i64 a,.int .i64 b] 3)));have HE0:=dh hE0; clear hE0 hl;have Hv:=dh hv; clear hv;rcases askedR_cases g.length [a,b] with ⟨h0,hin⟩ | ⟨h0,_⟩
 ·rw [h0] at hcall;have h1:=hin a (by simp);have h2:=hin b (by simp);obtain ⟨an,rfl⟩:∃ an:Nat,a=an:=⟨a.toNat,(Int.toNat_of_nonneg h1.1).symm⟩;obtain ⟨bn,rfl⟩:∃ bn:Nat,b=bn:=⟨b.toNat,(Int.toNat_of_nonneg h2.1).symm⟩;have Hs:=dh (show assignR g S an bn=if (nth S bn).testBit an then (1,0,0,0)
   else if (spanR (nth g an)).2.2&&(spanR (nth g bn)).2.2&&decide ((spanR (nth g an)).1<=(spanR (nth g bn)).2.1)&&decide ((spanR (nth g bn)).1<=(spanR (nth g an)).2.1) then (2,(spanR (nth g an)).1,(spanR (nth g an)).2.1,0)
   else if !isWordB (nth g an).kind&&!isWordB (nth g bn).kind&&(nth S an).testBit bn then (3,0,0,0) else (0,0,0,41) by unfold assignR; rw [if_pos h0]; simp only [Int.toNat_natCast])
  have hal:an<g.length:=by omega
  have hbl:bn<g.length:=by omega
  clear h0 hin h1 h2
  go_enter Tryz.func28,Tryz.ntmps28
  go_wp2_with fail;refine hcall.out.mono ?_;rintro e w1 ⟨rfl,hE⟩;have hv1:=EnvW.mono (HE0.out.trans hE) Hv.out;have HB1:=dh (HB0.out.ext hE);have HE:=dh (HE0.out.trans hE); clear hE;have c4:=hv1.c4;have hab:=hv1.ab;obtain ⟨aa,ac,rfl,_⟩:=id hab;obtain ⟨sb,so,hso,hsl,hbb⟩:=BitsW.at hab (show bn<S.length by omega);obtain ⟨sb2,so2,hso2,_,hba⟩:=BitsW.at hab (show an<S.length by omega);subst hso;cases hso2;have hbd:=(SlW.bound hab).2;have Hbb:=dh hbb;have Hba:=dh hba;have Hv1:=dh hv1;have hbS:bn<S.length:=by omega
  have haS:an<S.length:=by omega
  clear hv1 hab hbb hba;go_wp2_with fail;refine (has48 _ _ _ _ (by omega) _ Hbb.out).mono ?_;rintro e w2 ⟨rfl,rfl⟩;cases hfr:(nth S bn).testBit an;rotate_left
  ·have Hr:=dh (show assignR g S an bn=(1,0,0,0) by rw [Hs.out,if_pos hfr]);clear hfr;have e0:=HB1.out.cell (j:=0) rfl;have e1:=HB1.out.cell (j:=1) rfl;have e2:=HB1.out.cell (j:=2) rfl;have f0:=HB1.out.free 0;have f1:=HB1.out.free 1;have f2:=HB1.out.free 2;go_wp2_with fail;obtain ⟨X,hX⟩:∃ X:World,X=(((w2.setCell ⟨w.heap.size,0,none⟩ (.int .u8 1)).setCell ⟨w.heap.size,1,none⟩ (.int .i64 0)).setCell ⟨w.heap.size,2,none⟩ (.int .i64 0)):=⟨_,rfl⟩;have hXb:=AsBox.set3 HB1.out 1 0 0;have hXe:=ext_set3 HE.out (Nat.le_refl _) (.int .u8 1) (.int .i64 0) (.int .i64 0);rw [<- hX] at hXb hXe ⊢;have x0:=hXb.cell (j:=0) rfl;have x1:=hXb.cell (j:=1) rfl;have x2:=hXb.cell (j:=2) rfl;refine bodyPost_ret (v:=.tuple #[.agg #[.int .u8 1,.int .i64 0,.int .i64 0],.int .i64 0]) (by simp [results,Tryz.results28,go_sem,x0,x1,x2]) rfl ⟨by rw [Hr.out],hXe⟩
  have Hfr:=dh hfr; clear hfr;have c0:=Hv1.out.c0;obtain ⟨l,h,is,hsa⟩:∃ l h is,spanR (nth g an)=(l,h,is):=⟨_,_,_,rfl⟩;obtain ⟨m,M,was,hsb⟩:∃ l h is,spanR (nth g bn)=(l,h,is):=⟨_,_,_,rfl⟩;have ha61:=span61 vb ga g.length gc g an w2 c0 Hv1.out.gr hal;rw [hsa] at ha61 Hs;rw [hsb] at Hs;have Hsb:=dh hsb; clear hsb hsa;have Ha61:=dh ha61; clear ha61;simp only at Hs;go_wp2_with fail;refine Ha61.out.mono ?_;rintro e w3 ⟨rfl,hE⟩;have Hv2:=dh (EnvW.mono hE Hv1.out);have HB2:=dh (HB1.out.ext hE);have Hbb2:=dh (BitsAt.mono hE Hbb.out);have Hba2:=dh (BitsAt.mono hE Hba.out);have HE2:=dh (HE.out.trans hE); clear hE c0 c4;have c0:=Hv2.out.c0;have hb61:=span61 vb ga g.length gc g bn w3 c0 Hv2.out.gr hbl;rw [Hsb.out] at hb61;have Hb61:=dh hb61; clear hb61;go_wp2_with fail;refine Hb61.out.mono ?_;rintro e w4 ⟨rfl,hE⟩;have Hv3:=dh (EnvW.mono hE Hv2.out);have HB3:=dh (HB2.out.ext hE);have Hba3:=dh (BitsAt.mono hE Hba2.out);have HE3:=dh (HE2.out.trans hE); clear hE c0;go_upto_region 8 with (fail);go_cut [47] (fun v wx=>v=.bool (is&&was&&decide (l<=M)&&decide (m<=h))/\wx=w4)
  case first =>
   cases is
   ·go_wp2_with fail;go_meet;exact ⟨by simp,rfl⟩
   cases was
   ·go_wp2_with fail;go_meet;exact ⟨by simp,rfl⟩
   by_cases h1:l<=M
   ·by_cases h2:m<=h
    ·have Hb:=dh (show true=(true&&true&&decide (l<=M)&&decide (m<=h)) by simp [h1,h2]);go_wp2_with fail;go_meet;exact ⟨by rw [<- Hb.out],rfl⟩
    ·have Hb:=dh (show false=(true&&true&&decide (l<=M)&&decide (m<=h)) by simp [h2]);go_wp2_with fail;go_meet;exact ⟨by rw [<- Hb.out],rfl⟩
   ·have Hb:=dh (show false=(true&&true&&decide (l<=M)&&decide (m<=h)) by simp [h1]);go_wp2_with fail;go_meet;exact ⟨by rw [<- Hb.out],rfl⟩
  case rest =>
   obtain ⟨rfl,rfl⟩:=hcut;cases hrng:(is&&was&&decide (l<=M)&&decide (m<=h));rotate_left
   ·have Hr:=dh (show assignR g S an bn=(2,l,h,0) by rw [Hs.out,if_neg (by rw [Hfr.out]; decide),if_pos hrng]);clear hrng;have e0:=HB3.out.cell (j:=0) rfl;have e1:=HB3.out.cell (j:=1) rfl;have e2:=HB3.out.cell (j:=2) rfl;have f0:=HB3.out.free 0;have f1:=HB3.out.free 1;have f2:=HB3.out.free 2;go_wp2_with fail;obtain ⟨X,hX⟩:∃ X:World,X=(((wc.setCell ⟨w.heap.size,0,none⟩ (.int .u8 2)).setCell ⟨w.heap.size,1,none⟩ (.int .i64 l)).setCell ⟨w.heap.size,2,none⟩ (.int .i64 h)):=⟨_,rfl⟩;have hXb:=AsBox.set3 HB3.out 2 l h;have hXe:=ext_set3 HE3.out (Nat.le_refl _) (.int .u8 2) (.int .i64 l) (.int .i64 h);rw [<- hX] at hXb hXe ⊢;have x0:=hXb.cell (j:=0) rfl;have x1:=hXb.cell (j:=1) rfl;have x2:=hXb.cell (j:=2) rfl;refine bodyPost_ret (v:=.tuple #[.agg #[.int .u8 2,.int .i64 l,.int .i64 h],.int .i64 0]) (by simp [results,Tryz.results28,go_sem,x0,x1,x2]) rfl ⟨by rw [Hr.out],hXe⟩
   have Hrng:=dh hrng; clear hrng;have c0:=Hv3.out.c0;have c1:=Hv3.out.c1;have c4:=Hv3.out.c4;obtain ⟨ca,cc,hcv,_⟩:=id Hv3.out.cl;rw [hcv] at c1;obtain ⟨cn,hcn⟩:∃ cn,cn=((List.range g.length).map fun i=>(C i:Int)).length:=⟨_,rfl⟩;rw [<- hcn] at c1 hcv;have Hcv:=dh hcv; clear hcv hcn;go_upto_region 10 with (fail);go_cut [65] (fun v wx=>v=.bool (!isWordB (nth g an).kind&&!isWordB (nth g bn).kind&&(nth S an).testBit bn)/\Hid (Ext wc wx))
   case first =>
    go_wp2_with fail;refine (isWord62 ga g.length gc _ g an wc Hv3.out.gr hal ⟨ca,cn,cc,rfl⟩).mono ?_;rintro e w5 ⟨rfl,hE5⟩;cases hwa:isWordB (nth g an).kind;rotate_left
    ·have HE5:=dh hE5; clear hE5;have Hwa:=dh hwa; clear hwa;go_wp2_with fail;go_meet;exact ⟨by rw [Hwa.out]; rfl,HE5.out⟩
    have c0:=hE5.cell c0;have c1:=hE5.cell c1;have c4:=hE5.cell c4;have HE5:=dh hE5; clear hE5;have Hwa:=dh hwa; clear hwa;go_wp2_with fail;refine (isWord62 ga g.length gc _ g bn w5 (Graph.mono HE5.out Hv3.out.gr) hbl ⟨ca,cn,cc,rfl⟩).mono ?_;rintro e w6 ⟨rfl,hE6⟩;cases hwb:isWordB (nth g bn).kind;rotate_left
    ·have HE6:=dh (HE5.out.trans hE6); clear hE6;have Hwb:=dh hwb; clear hwb;go_wp2_with fail;go_meet;exact ⟨by rw [Hwa.out,Hwb.out]; rfl,HE6.out⟩
    have c4:=hE6.cell c4;have HE6:=dh (HE5.out.trans hE6); clear hE6;have Hwb:=dh hwb; clear hwb;go_wp2_with fail;refine (has48 _ _ _ _ (by omega) _ (BitsAt.mono HE6.out Hba3.out)).mono ?_;rintro e w7 ⟨rfl,rfl⟩;go_wp2_with fail;go_meet;exact ⟨by rw [Hwa.out,Hwb.out]; rfl,HE6.out⟩
   case rest =>
    obtain ⟨rfl,hE⟩:=hcut;have HB4:=dh (HB3.out.ext hE.out);have HE4:=dh (HE3.out.trans hE.out);clear c0 c1 c4;cases hnar:(!isWordB (nth g an).kind&&!isWordB (nth g bn).kind&&(nth S an).testBit bn)
    ·have Hr:=dh (show assignR g S an bn=(0,0,0,41) by rw [Hs.out,if_neg (by rw [Hfr.out]; decide),if_neg (by rw [Hrng.out]; decide),if_neg (by rw [hnar]; decide)]);clear hnar;have e0:=HB4.out.cell (j:=0) rfl;have e1:=HB4.out.cell (j:=1) rfl;have e2:=HB4.out.cell (j:=2) rfl;have f0:=HB4.out.free 0;have f1:=HB4.out.free 1;have f2:=HB4.out.free 2;go_wp2_with fail;obtain ⟨X,hX⟩:∃ X:World,X=(((wc.setCell ⟨w.heap.size,0,none⟩ (.int .u8 0)).setCell ⟨w.heap.size,1,none⟩ (.int .i64 0)).setCell ⟨w.heap.size,2,none⟩ (.int .i64 0)):=⟨_,rfl⟩;have hXb:=AsBox.set3 HB4.out 0 0 0;have hXe:=ext_set3 HE4.out (Nat.le_refl _) (.int .u8 0) (.int .i64 0) (.int .i64 0);rw [<- hX] at hXb hXe ⊢;have x0:=hXb.cell (j:=0) rfl;have x1:=hXb.cell (j:=1) rfl;have x2:=hXb.cell (j:=2) rfl;refine bodyPost_ret (v:=.tuple #[.agg #[.int .u8 0,.int .i64 0,.int .i64 0],.int .i64 41]) (by simp [results,Tryz.results28,go_sem,x0,x1,x2]) rfl ⟨by rw [Hr.out],hXe⟩
    ·have Hr:=dh (show assignR g S an bn=(3,0,0,0) by rw [Hs.out,if_neg (by rw [Hfr.out]; decide),if_neg (by rw [Hrng.out]; decide),if_pos hnar]);clear hnar;have e0:=HB4.out.cell (j:=0) rfl;have e1:=HB4.out.cell (j:=1) rfl;have e2:=HB4.out.cell (j:=2) rfl;have f0:=HB4.out.free 0;have f1:=HB4.out.free 1;have f2:=HB4.out.free 2;go_wp2_with fail;obtain ⟨X,hX⟩:∃ X:World,X=(((wc.setCell ⟨w.heap.size,0,none⟩ (.int .u8 3)).setCell ⟨w.heap.size,1,none⟩ (.int .i64 0)).setCell ⟨w.heap.size,2,none⟩ (.int .i64 0)):=⟨_,rfl⟩;have hXb:=AsBox.set3 HB4.out 3 0 0;have hXe:=ext_set3 HE4.out (Nat.le_refl _) (.int .u8 3) (.int .i64 0) (.int .i64 0);rw [<- hX] at hXb hXe ⊢;have x0:=hXb.cell (j:=0) rfl;have x1:=hXb.cell (j:=1) rfl;have x2:=hXb.cell (j:=2) rfl;refine bodyPost_ret (v:=.tuple #[.agg #[.int .u8 3,.int .i64 0,.int .i64 0],.int .i64 0]) (by simp [results,Tryz.results28,go_sem,x0,x1,x2]) rfl ⟨by rw [Hr.out],hXe⟩
 ·rw [h0] at hcall;have Hs:=dh (show assignR g S a b=(0,0,0,1) by unfold assignR; rw [if_neg (by rw [h0]; decide)]);clear h0
  go_enter Tryz.func28,Tryz.ntmps28
  go_wp2_with fail;refine hcall.out.mono ?_;rintro e w1 ⟨rfl,hE⟩;have HB:=dh (HB0.out.ext hE);have c0:=HB.out.cell (j:=0) rfl;have c1:=HB.out.cell (j:=1) rfl;have c2:=HB.out.cell (j:=2) rfl;have f0:=HB.out.free 0;have f1:=HB.out.free 1;have f2:=HB.out.free 2;have HE:=dh (HE0.out.trans hE); clear hE;go_wp2_with fail;obtain ⟨X,hX⟩:∃ X:World,X=(((w1.setCell ⟨w.heap.size,0,none⟩ (.int .u8 0)).setCell ⟨w.heap.size,1,none⟩ (.int .i64 0)).setCell ⟨w.heap.size,2,none⟩ (.int .i64 0)):=⟨_,rfl⟩;have hXb:=AsBox.set3 HB.out 0 0 0;have hXe:=ext_set3 HE.out (Nat.le_refl _) (.int .u8 0) (.int .i64 0) (.int .i64 0);rw [<- hX] at hXb hXe ⊢;have x0:=hXb.cell (j:=0) rfl;have x1:=hXb.cell (j:=1) rfl;have x2:=hXb.cell (j:=2) rfl;refine bodyPost_ret (v:=.tuple #[.agg #[.int .u8 0,.int .i64 0,.int .i64 0],.int .i64 1]) (by simp [results,Tryz.results28,go_sem,x0,x1,x2]) rfl ⟨by rw [Hs.out],hXe⟩
end
section
open Go.RowKit Go.Proofs
end
section
open Go.RowKit Go.Proofs Go.Shelf
attribute [local go_sem] Oper.semAt_some
theorem roundIn_any {a b:Nat} {P:Program} {l:Nat} {f:FuncId} {tmps:Array Value} {assign body:Code} {w:World} {R:Ending->World->Prop}
  (h:RoundIn Fence.wide a P l f tmps assign body w R):RoundIn Fence.wide b P l f tmps assign body w R :=
 ⟨h.1,fun c cs _=>h.2 c cs (room_wide _)⟩
def OkStp (nV:Nat) (s:Stp):Prop:=s.rule<=7/\s.to_<nV/\s.n<60
def Yld (l n0 NN nV:Nat) (foot:World->Nat->Prop) (J Jx:List Stp->World->Prop):Prop :=
 ∀ pre s W1,OkStp nV s->J pre W1->pre.length<NN->∃ fn tmps assign body,(Instr.yield l (encStp s)).run Tryz.prog W1=.ok (.round l fn tmps assign body) W1 /\
  ∀ m,RoundIn Fence.wide m Tryz.prog l fn tmps assign body W1 fun e W'=>(e=.returned (.bool true)/\Hid (J (pre++[s]) W'/\KpF n0 foot W1 W'))\/(e=.returned (.bool false)/\Hid (Jx (pre++[s]) W'))
def YPost (n0:Nat) (foot:World->Nat->Prop) (J Jx:List Stp->World->Prop) (pre xs:List Stp) (W:World) (e:Ending) (W':World):Prop :=
 (e=.returned (.bool true)/\J (pre++xs) W'/\KpF n0 foot W W')\/(e=.returned (.bool false)/\∃ q,q <+: xs/\Jx (pre++q) W')
def toL (r n:Nat) (p:Nat->Bool):List Stp:=((List.range n).filter p).map fun u=>⟨r,u,0⟩
theorem toL_succ_hit (r k:Nat) (p:Nat->Bool) (h:p k=true):toL r (k+1) p=toL r k p++[⟨r,k,0⟩]:=by
 unfold toL; rw [filter_snoc,h]; simp
theorem toL_succ_miss (r k:Nat) (p:Nat->Bool) (h:p k=false):toL r (k+1) p=toL r k p:=by
 unfold toL; rw [filter_snoc,h]; simp
theorem toL_len (r n:Nat) (p:Nat->Bool):(toL r n p).length<=n:=by
 unfold toL;have:=List.length_filter_le p (List.range n)
 simpa using this
theorem grown_of_ext {W W':World} (h:Ext W W'):W.grownBy W' none:=⟨h.os,h.tape,h.output,h.size,fun j hj _=>h.block j hj⟩
theorem toL_prefix (r:Nat) (p:Nat->Bool) (n:Nat):∀ k,k<=n->toL r k p <+: toL r n p:=by
 intro k hk
 induction n with
 | zero=>rw [Nat.le_zero.1 hk]; exact List.prefix_refl _
 | succ n ih =>
  by_cases h:k=n+1
  ·rw [h]; exact List.prefix_refl _
  ·refine (ih (by omega)).trans ?_;cases hp:p n
   ·rw [toL_succ_miss r n p hp]; exact List.prefix_refl _
   ·rw [toL_succ_hit r n p hp]; exact List.prefix_append _ _
theorem to166 (N n0 NN nV l m:Nat) (foot:World->Nat->Prop) (hok:FootOk N foot) (J Jx:List Stp->World->Prop) (hY:Yld l n0 NN nV foot J Jx) (hJ:∀ pre W W',J pre W->W.grownBy W' none->J pre W')
  (F:FuncId) (he:Enters Tryz.prog F) (cap:Array Value) (r vb:Nat) (hr:r<=7) (ga:Option Addr) (n gc:Nat) (hn:n<=400) (hnV:n<=nV) (p:Nat->Bool) (Inv:World->Prop)
  (hIK:∀ W W',Inv W->KpF n0 foot W W'->Inv W') (hc0:∀ W,Inv W->W.cell? ⟨vb,0,none⟩=some (.slice ga n gc))
  (hF:∀ u W1,u<n->Inv W1->Calls Tryz.prog F (#[.int .i64 u]++cap) W1 fun e W2=>e=.returned (.bool (p u))/\Ext W1 W2)
  (pre:List Stp) (hlen:pre.length+n<=NN) (W:World) (hN:N<=W.heap.size) (hn0:n0<=W.heap.size) (hI:Inv W) (h0:J pre W) :
  CallsIn Fence.wide m Tryz.prog 166 #[.pointer (some ⟨vb,0,none⟩),.int .u8 r,.func (.yield l) #[] #[],.func (.func F) #[] cap] W (YPost n0 foot J Jx pre (toL r n p) W):=by
 have c0:=hc0 W hI;have HF:=dh hF; clear hF;have HY:=dh hY; clear hY;have HJ:=dh hJ; clear hJ;have HIK:=dh hIK; clear hIK;have HI:=dh hI; clear hI;have H0:=dh h0; clear h0 hc0;refine callsIn_of_wp Tryz.func166 rfl trivial ?_ rfl;simp only [Tryz.ntmps166,List.size_toArray,List.length_cons,List.length_nil,Nat.reduceAdd,Nat.reduceSub,Array.replicate_succ,Array.replicate_zero,List.push_toArray,List.append_toArray,List.nil_append,List.cons_append]
 gi_upto_region 2 with (fail)
 gi_loopw [9,16] (fun _ i wr=>∃ k:Nat,k<=n/\i=.int .i64 k/\Hid (J (pre++toL r k p) wr/\Inv wr/\KpF n0 foot W wr)) (fun _ i _=>n-(intOf i).toNat)
 case atStart=>exact ⟨0,Nat.zero_le _,rfl,by simpa [toL] using H0.out,HI.out,KpF.refl _ _ _⟩
 case round =>
  obtain ⟨k,hk,rfl,hH⟩:=hrel;have H1:=dh hH.out.1;have HI1:=dh hH.out.2.1;have HK1:=dh hH.out.2.2;clear hH;by_cases hlt:k<n
  ·have hEn:∀ (args:Array Value) (w:World),(callFunc F args).run Tryz.prog w=.ok (.enter F args) w:=he;gi_wp2_with fail;refine ⟨trivial,fun h=>(by cases h),callsIn_wide.2 ((HF.out k wr hlt HI1.out).mono ?_)⟩;rintro e w2 ⟨rfl,hE⟩;have hsz:=HK1.out.below.size;have hK2:=KpF.ext (n:=n0) hok (by omega) (by omega) hE;have HJ2:=dh (HJ.out _ _ _ H1.out (grown_of_ext hE));have HI2:=dh (HIK.out _ _ HI1.out hK2);have HK2:=dh (HK1.out.trans hK2);clear hE hK2 hEn;cases hp:p k
   ·have Hs:=dh (toL_succ_miss r k p hp);clear hp;gi_wp2_with fail;refine ⟨fun _ h=>(by cases h),?_⟩;gi_wp2_with fail;go_roundw
    case rel=>exact ⟨k+1,by omega,by go_num,by rw [Hs.out]; exact HJ2.out,HI2.out,HK2.out⟩
    case measure=>simp [intOf]; omega
   ·have Hs:=dh (toL_succ_hit r k p hp);have hlk:=toL_len r k p;obtain ⟨fn,tmps,assign,body,hy,hR⟩:=HY.out (pre++toL r k p) ⟨r,k,0⟩ w2 ⟨hr,by show k<nV; omega,by show 0<60; decide⟩ HJ2.out (by rw [List.length_append]; omega);have hy2:(Instr.yield l #[.agg #[.int .u8 (r:Int),.int .i64 (k:Int),.int .i64 0]]).run Tryz.prog w2=.ok (.round l fn tmps assign body) w2:=hy;clear hy;clear hp;gi_wp2_with fail;refine ⟨fun h=>(by cases h),(hR _).mono ?_⟩;rintro e W3 (⟨rfl,hH⟩ | ⟨rfl,hJx⟩)
    ·gi_wp2_with fail;go_roundw
     case rel=>exact ⟨k+1,by omega,by go_num,by rw [Hs.out,<- List.append_assoc]; exact hH.out.1,HIK.out _ _ HI2.out hH.out.2,HK2.out.trans hH.out.2⟩
     case measure=>simp [intOf]; omega
    ·gi_wp2_with fail;go_ret;exact Or.inr ⟨rfl,toL r (k+1) p,toL_prefix r p n (k+1) (by omega),by rw [Hs.out,<- List.append_assoc]; exact hJx.out⟩
  ·have:k=n:=by omega
   subst this;gi_wp2_with fail;go_ret;exact Or.inl ⟨rfl,H1.out,HK1.out⟩
end
end Go.Proofs.YtjffkeoajkhbmaaGreat
