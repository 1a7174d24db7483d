/- What the rules ask of a type. The rules of sub, each of which yields steps. The rule for NULL. The rule for ranges. The rule for what has a Super. The table of the rules of sub; steps. The rule that goes back from a revealed type. The rule that goes back from a revealed type, walked. The revelations of a name; the map that holds them; what one goes up to. -/
import Derived.Laws.EntriesVeiled
import Derived.Test.YtjffkeoajkhbmaaGreatOX0
import Derived.Test.YtjffkeoajkhbmaaGreatOX11
import Derived.Test.YtjffkeoajkhbmaaGreatOX12
namespace Go.Proofs.YtjffkeoajkhbmaaGreat
set_option linter.unusedSimpArgs false
set_option linter.unusedVariables false
set_option maxRecDepth 100000
set_option maxHeartbeats 8000000
section
open Go.RowKit Go.Proofs
theorem same167 (u t b3 b4 vb:Nat) (ca:Option Addr) (n cc:Nat) (cl:List Int) (w:World) (hu:u<n) (ht:t<n)
  (h3:w.cell? ⟨b3,0,none⟩=some (.pointer (some ⟨vb,0,none⟩))) (h4:w.cell? ⟨b4,0,none⟩=some (.int .i64 t)) (c1:w.cell? ⟨vb,1,none⟩=some (.slice ca n cc)) (hc:Ints w (.slice ca n cc) cl) :
  Calls Tryz.prog 167 #[.int .i64 u,.pointer (some ⟨b3,0,none⟩),.pointer (some ⟨b4,0,none⟩)] w fun e w'=>e=.returned (.bool (nth cl u==nth cl t))/\Ext w w':=by
 have hb:=(SlW.bound hc).2;obtain ⟨ub,uo,hao,hul,d0,_⟩:=Ints.at hc hu;obtain ⟨tb,toff,hbo,htl,d1,_⟩:=Ints.at hc ht;subst hao;cases hbo;clear hc
 go_enter Tryz.func167,Tryz.ntmps167
 go_upto_region 1 with (fail)
 go_quiet (fail)
 go_wp2_with fail;go_ret;exact ⟨rfl,below_drewN (Ext.refl _) nq⟩
theorem enters167:Enters Tryz.prog 167:=enters_of Tryz.func167 (by kernel_rfl) rfl
theorem null169 (u b3 vb:Nat) (ga:Option Addr) (n gc:Nat) (ca:Option Addr) (cn cc:Nat) (g:List Ty) (w:World) (hu:u<n)
  (h3:w.cell? ⟨b3,0,none⟩=some (.pointer (some ⟨vb,0,none⟩))) (c0:w.cell? ⟨vb,0,none⟩=some (.slice ga n gc)) (c1:w.cell? ⟨vb,1,none⟩=some (.slice ca cn cc)) (hg:Graph w (.slice ga n gc) g) :
  Calls Tryz.prog 169 #[.int .i64 u,.pointer (some ⟨b3,0,none⟩)] w fun e w'=>e=.returned (.bool (!isWordB (nth g u).kind))/\Ext w w':=by
 have Hc:=dh (isWord62 ga n gc _ g u w hg hu ⟨ca,cn,cc,rfl⟩);clear hg
 go_enter Tryz.func169,Tryz.ntmps169
 go_wp2_with fail;refine Hc.out.mono ?_;rintro e w1 ⟨rfl,hE⟩;have HE:=dh hE; clear hE;go_wp2_with fail;go_ret;exact ⟨rfl,HE.out⟩
theorem enters169:Enters Tryz.prog 169:=enters_of Tryz.func169 (by kernel_rfl) rfl
def widerB (x y:Ty):Bool:=y.kind==1||(y.kind==3&&decide (y.low<=x.low)&&decide (x.high<=y.high))
theorem wider168 (u b3 b7 vb:Nat) (ga:Option Addr) (n gc:Nat) (g:List Ty) (x:Ty) (w:World) (hu:u<n)
  (h3:w.cell? ⟨b3,0,none⟩=some (.pointer (some ⟨vb,0,none⟩))) (c0:w.cell? ⟨vb,0,none⟩=some (.slice ga n gc)) (x1:w.cell? ⟨b7,1,none⟩=some (.int .i64 x.low)) (x2:w.cell? ⟨b7,2,none⟩=some (.int .i64 x.high)) (hg:Graph w (.slice ga n gc) g) :
  Calls Tryz.prog 168 #[.int .i64 u,.pointer (some ⟨b3,0,none⟩),.pointer (some ⟨b7,0,none⟩)] w fun e w'=>e=.returned (.bool (widerB x (nth g u)))/\Ext w w':=by
 have hb:=(SlW.bound hg).2;have hx7:b7<w.heap.size:=cell_lt x1;obtain ⟨b,off,pa,pl,pc,ma,ml,mc,oa,ol,oc,rfl,hlt2,hT⟩:=Graph.at hg hu;obtain ⟨d0,d1,d2,d3,d4,d5,d6,d7,d8,d9,_,_,_,_⟩:=hT;clear hg;have Hs:=dh (show widerB x (nth g u)=((nth g u).kind==1||((nth g u).kind==3&&decide ((nth g u).low<=x.low)&&decide (x.high<=(nth g u).high))) from rfl);cases h1:((nth g u).kind==1)
 ·cases h2:((nth g u).kind==3)
  ·go_enter Tryz.func168,Tryz.ntmps168
   go_wp2;go_ret;exact ⟨ret_bool (by rw [Hs.out,h1,h2]; rfl),by (repeat (first | exact Ext.refl _ | (refine Ext.trans ?_ (Hid.out (by assumption))) | (refine Ext.trans ?_ (Ext.alloc _ _)) | (refine Ext.trans ?_ (Ext.drew _)) | (refine below_drewN ?_ _)))⟩
  ·by_cases h4:(nth g u).low<=x.low
   ·have Hr:=dh (show widerB x (nth g u)=decide (x.high<=(nth g u).high) by rw [Hs.out,h1,h2]; simp [h4])
    go_enter Tryz.func168,Tryz.ntmps168
    go_wp2
    all_goals go_ret
    all_goals exact ⟨ret_bool (by rw [Hr.out]; try simp [*]),by (repeat (first | exact Ext.refl _ | (refine Ext.trans ?_ (Hid.out (by assumption))) | (refine Ext.trans ?_ (Ext.alloc _ _)) | (refine Ext.trans ?_ (Ext.drew _)) | (refine below_drewN ?_ _)))⟩
   ·have Hr:=dh (show widerB x (nth g u)=false by rw [Hs.out,h1,h2]; simp [h4])
    go_enter Tryz.func168,Tryz.ntmps168
    go_wp2;go_ret;exact ⟨ret_bool Hr.out.symm,by (repeat (first | exact Ext.refl _ | (refine Ext.trans ?_ (Hid.out (by assumption))) | (refine Ext.trans ?_ (Ext.alloc _ _)) | (refine Ext.trans ?_ (Ext.drew _)) | (refine below_drewN ?_ _)))⟩
 ·go_enter Tryz.func168,Tryz.ntmps168
  go_wp2;go_ret;exact ⟨ret_bool (by rw [Hs.out,h1]; rfl),by (repeat (first | exact Ext.refl _ | (refine Ext.trans ?_ (Hid.out (by assumption))) | (refine Ext.trans ?_ (Ext.alloc _ _)) | (refine Ext.trans ?_ (Ext.drew _)) | (refine below_drewN ?_ _)))⟩
theorem enters168:Enters Tryz.prog 168:=enters_of Tryz.func168 (by kernel_rfl) rfl
theorem any170 (u b5 b3 vb:Nat) (k:Int) (ga:Option Addr) (n gc:Nat) (g:List Ty) (w:World) (hu:u<n)
  (h5:w.cell? ⟨b5,0,none⟩=some (.int .u8 k)) (h3:w.cell? ⟨b3,0,none⟩=some (.pointer (some ⟨vb,0,none⟩))) (c0:w.cell? ⟨vb,0,none⟩=some (.slice ga n gc)) (hg:Graph w (.slice ga n gc) g) :
  Calls Tryz.prog 170 #[.int .i64 u,.pointer (some ⟨b5,0,none⟩),.pointer (some ⟨b3,0,none⟩)] w fun e w'=>e=.returned (.bool (k != 0&&(nth g u).kind==k))/\Ext w w':=by
 have hb:=(SlW.bound hg).2;obtain ⟨b,off,pa,pl,pc,ma,ml,mc,oa,ol,oc,rfl,hlt2,hT⟩:=Graph.at hg hu;have d0:=hT.c0;clear hg hT;cases hk:(k==0)
 ·have hkn:=dh (show (k != 0)=true by simp only [bne,hk]; rfl);have hkm:=hkn.out
  go_enter Tryz.func170,Tryz.ntmps170
  go_upto_region 1 with (fail);refine Zr 99 ?_;change wpE _ _ _ _ _ _ _ _ (World.drew _);refine Zc 0 h5 ?_;refine Zg 1 ?_;refine Zg 2 ?_;refine Zc 3 h3 ?_;refine Zg 4 ?_;refine Zg 5 ?_;refine Zg 6 ?_;refine Zc 7 c0 ?_;refine Zg 8 ?_;refine Zg 9 ?_;refine Zg 10 ?_;refine Zc 11 d0 ?_;refine Zc 12 h5 ?_;refine Zg 13 ?_;refine Zg 14 ?_;refine Zg 15 ?_;refine Zd ?_;go_wp2_with fail;go_ret;exact ⟨ret_bool (by rw [hkn.out,Bool.true_and]),Ext.drew _⟩
 ·have hkn:=dh (show (k != 0)=false by simp only [bne,hk]; rfl);have hkm:=hkn.out
  go_enter Tryz.func170,Tryz.ntmps170
  go_upto_region 1 with (fail);refine Zr 99 ?_;change wpE _ _ _ _ _ _ _ _ (World.drew _);refine Zc 0 h5 ?_;refine Zg 1 ?_;refine Zg 2 ?_;refine Zs 3 ?_;refine Zs 4 ?_;refine Zs 5 ?_;refine Zs 6 ?_;refine Zs 7 ?_;refine Zs 8 ?_;refine Zs 9 ?_;refine Zs 10 ?_;refine Zs 11 ?_;refine Zs 12 ?_;refine Zs 13 ?_;refine Zg 14 ?_;refine Zg 15 ?_;refine Zd ?_;go_wp2_with fail;go_ret;exact ⟨ret_bool (by rw [hkn.out]; rfl),Ext.drew _⟩
theorem enters170:Enters Tryz.prog 170:=enters_of Tryz.func170 (by kernel_rfl) rfl
theorem isAbove97 (ga:Option Addr) (n gc:Nat) (cv:Value) (g:List Ty) (t:Nat) (w:World) (hg:Graph w (.slice ga n gc) g) (ht:t<n) (hc:∃ ca cn cc,cv=.slice ca cn cc) :
  Calls Tryz.prog 97 #[.agg #[.slice ga n gc,cv],.int .i64 t] w fun e w'=>e=.returned (.bool (hasSuperB (nth g t).kind))/\Ext w w':=by
 obtain ⟨ca,cn,cc,rfl⟩:=hc;have hb:=(SlW.bound hg).2;obtain ⟨b,off,pa,pl,pc,ma,ml,mc,oa,ol,oc,rfl,hlt2,hT⟩:=Graph.at hg ht;have c0:=hT.c0;clear hT;have Hg:=dh hg; clear hg;have Hs:=dh (show hasSuperB (nth g t).kind=((nth g t).kind==12||(nth g t).kind==13) from rfl);obtain ⟨k,hk⟩:∃ k,k=(nth g t).kind:=⟨_,rfl⟩;rw [<- hk] at c0 Hs ⊢;clear hk;cases h1:(k==12)
 ·cases h2:(k==13)
  all_goals go_enter Tryz.func97,Tryz.ntmps97
  all_goals go_wp2
  all_goals go_ret
  all_goals exact ⟨ret_bool (by rw [Hs.out,h1,h2]; rfl),by (repeat (first | exact Ext.refl _ | (refine Ext.trans ?_ (Hid.out (by assumption))) | (refine Ext.trans ?_ (Ext.alloc _ _)) | (refine Ext.trans ?_ (Ext.drew _)) | (refine below_drewN ?_ _)))⟩
 ·go_enter Tryz.func97,Tryz.ntmps97
  go_wp2;go_ret;exact ⟨ret_bool (by rw [Hs.out,h1]; rfl),by (repeat (first | exact Ext.refl _ | (refine Ext.trans ?_ (Hid.out (by assumption))) | (refine Ext.trans ?_ (Ext.alloc _ _)) | (refine Ext.trans ?_ (Ext.drew _)) | (refine below_drewN ?_ _)))⟩
end
section
open Go.RowKit Go.Proofs Go.Shelf
attribute [local go_sem] Oper.semAt_some
structure YCtx (N NN nV l:Nat) (w0:World) (foot:World->Nat->Prop) (J Jx:List Stp->World->Prop):Prop where
 ok:FootOk N foot
 Y:Yld l w0.heap.size NN nV foot J Jx
 gr:∀ pre W W',J pre W->W.grownBy W' none->J pre W'
theorem ext_kpf {w0 W W':World} {foot:World->Nat->Prop} (h:Ext w0 W) (k:KpF w0.heap.size foot W W'):Ext w0 W':=Below.trans h k.below
theorem YPost.step {n0:Nat} {foot:World->Nat->Prop} {J Jx:List Stp->World->Prop} {pre xs:List Stp} {W W1:World} (hk:KpF n0 foot W W1) {e:Ending} {W':World} (h:YPost n0 foot J Jx pre xs W1 e W'):YPost n0 foot J Jx pre xs W e W':=by
 rcases h with ⟨a,b,c⟩ | h
 ·exact Or.inl ⟨a,b,hk.trans c⟩
 ·exact Or.inr h
theorem same138 {N NN nV l:Nat} {w0:World} {foot:World->Nat->Prop} {J Jx:List Stp->World->Prop} (X:YCtx N NN nV l w0 foot J Jx) (m vb:Nat) (g:List Ty) (C:Nat->Nat) (rs:List Reveal) (S:List Nat) (gv cv rv av:Value) (hv:EnvW w0 vb g C rs S gv cv rv av)
  (hn:g.length<=400) (hnV:g.length<=nV) (t:Nat) (ht:t<g.length) (pre:List Stp) (hlen:pre.length+g.length<=NN) (W:World) (hE:Ext w0 W) (hN:N<=W.heap.size) (h0:J pre W) :
  CallsIn Fence.wide m Tryz.prog 138 #[.pointer (some ⟨vb,0,none⟩),.int .i64 t,.func (.yield l) #[] #[]] W (YPost w0.heap.size foot J Jx pre (toL 1 g.length fun u=>C u==C t) W):=by
 obtain ⟨ga,gc,rfl,_⟩:=id hv.gr;obtain ⟨ca,cc,rfl,_⟩:=id hv.cl;have hcl:((List.range g.length).map fun i=>(C i:Int)).length=g.length:=by simp
 have hclass:∀ u,u<g.length->nth ((List.range g.length).map fun i=>(C i:Int)) u=(C u:Int):=fun u hu=>by rw [nth_eq (by simpa using hu)]; simp
 have hE1:=Ext.alloc W (.cells #[.pointer (some ⟨vb,0,none⟩)] 28);have hE2:=Ext.alloc (W.alloc (.cells #[.pointer (some ⟨vb,0,none⟩)] 28)) (.cells #[.int .i64 t] 3);have hs3:Safe foot ((W.alloc (.cells #[.pointer (some ⟨vb,0,none⟩)] 28)).alloc (.cells #[.int .i64 t] 3)) W.heap.size #[.pointer (some ⟨vb,0,none⟩)] 28 :=
  (Safe.new X.ok W hN _ _ (Or.inl (by decide))).ext X.ok (by simp; omega) hE2
 have hs4:Safe foot ((W.alloc (.cells #[.pointer (some ⟨vb,0,none⟩)] 28)).alloc (.cells #[.int .i64 t] 3)) (W.heap.size+1) #[.int .i64 t] 3:=by
  have:=Safe.new X.ok (W.alloc (.cells #[.pointer (some ⟨vb,0,none⟩)] 28)) (by simp; omega) #[.int .i64 t] 3 (Or.inr (by simp))
  rwa [World.size_alloc] at this
 have hto:=dh (to166 N w0.heap.size NN nV l (m-1) foot X.ok J Jx X.Y X.gr 167 enters167 #[.pointer (some ⟨W.heap.size,0,none⟩),.pointer (some ⟨W.heap.size+1,0,none⟩)] 1 vb (by decide) ga g.length gc hn hnV (fun u=>C u==C t)
  (fun W'=>Ext w0 W'/\Safe foot W' W.heap.size #[.pointer (some ⟨vb,0,none⟩)] 28/\Safe foot W' (W.heap.size+1) #[.int .i64 t] 3)
  (fun A B h k=>⟨ext_kpf h.1 k,h.2.1.kept k,h.2.2.kept k⟩) (fun A h=>h.1.cell hv.c0)
  (fun u A hu h=>(same167 u t _ _ vb ca _ cc _ A (by rw [hcl]; exact hu) (by rw [hcl]; exact ht) (h.2.1.cell rfl) (h.2.2.cell rfl) (h.1.cell hv.c1) (Ints.mono h.1 hv.cl)).mono (fun e B h=>⟨by rw [h.1,hclass u hu,hclass t ht]; exact ret_bool (by rw [Bool.eq_iff_iff]; simp; omega),h.2⟩))
  pre hlen _ (by simp; omega) (by have:=hE.size; simp; omega) ⟨hE.trans (hE1.trans hE2),hs3,hs4⟩ (X.gr _ _ _ h0 (grown_of_ext (hE1.trans hE2))))
 have HK:=dh (KpF.ext X.ok (n:=w0.heap.size) hE.size hN (hE1.trans hE2));clear hs3 hs4 hE1 hE2 hclass hcl;refine callsIn_of_wp Tryz.func138 rfl trivial ?_ rfl;simp only [Tryz.ntmps138,List.size_toArray,List.length_cons,List.length_nil,Nat.reduceAdd,Nat.reduceSub,Array.replicate_succ,Array.replicate_zero,List.push_toArray,List.append_toArray,List.nil_append,List.cons_append];gi_wp2_with fail;refine ⟨trivial,fun h=>(by cases h),hto.out.mono ?_⟩;rintro e W3 hP;have HP:=dh hP;rcases hP with ⟨rfl,_⟩ | ⟨rfl,_⟩
 ·gi_wp2_with fail;go_ret;exact YPost.step HK.out HP.out
 ·gi_wp2_with fail;go_ret;exact YPost.step HK.out HP.out
end
section
open Go.RowKit Go.Proofs Go.Shelf
attribute [local go_sem] Oper.semAt_some
def nullL (g:List Ty) (t:Nat):List Stp:=if (nth g t).kind=5 then toL 3 g.length fun u=>!isWordB (nth g u).kind else []
theorem null140 {N NN nV l:Nat} {w0:World} {foot:World->Nat->Prop} {J Jx:List Stp->World->Prop} (X:YCtx N NN nV l w0 foot J Jx) (m vb:Nat) (g:List Ty) (C:Nat->Nat) (rs:List Reveal) (S:List Nat) (gv cv rv av:Value) (hv:EnvW w0 vb g C rs S gv cv rv av)
  (hn:g.length<=400) (hnV:g.length<=nV) (t:Nat) (ht:t<g.length) (pre:List Stp) (hlen:pre.length+g.length<=NN) (W:World) (hE:Ext w0 W) (hN:N<=W.heap.size) (h0:J pre W) :
  CallsIn Fence.wide m Tryz.prog 140 #[.pointer (some ⟨vb,0,none⟩),.int .i64 t,.func (.yield l) #[] #[]] W (YPost w0.heap.size foot J Jx pre (nullL g t) W):=by
 obtain ⟨ga,gc,rfl,_⟩:=id hv.gr;obtain ⟨ca,cc,rfl,_⟩:=id hv.cl;have hb:=(SlW.bound hv.gr).2;have hE1:=Ext.alloc W (.cells #[.pointer (some ⟨vb,0,none⟩)] 28);have hs3:Safe foot (W.alloc (.cells #[.pointer (some ⟨vb,0,none⟩)] 28)) W.heap.size #[.pointer (some ⟨vb,0,none⟩)] 28:=Safe.new X.ok W hN _ _ (Or.inl (by decide));have hJ1:=X.gr _ _ _ h0 (grown_of_ext hE1);have hto:=dh (to166 N w0.heap.size NN nV l (m-1) foot X.ok J Jx X.Y X.gr 169 enters169 #[.pointer (some ⟨W.heap.size,0,none⟩)] 3 vb (by decide) ga g.length gc hn hnV (fun u=>!isWordB (nth g u).kind)
  (fun W'=>Ext w0 W'/\Safe foot W' W.heap.size #[.pointer (some ⟨vb,0,none⟩)] 28)
  (fun A B h k=>⟨ext_kpf h.1 k,h.2.kept k⟩) (fun A h=>h.1.cell hv.c0)
  (fun u A hu h=>null169 u _ vb ga g.length gc ca _ cc g A hu (h.2.cell rfl) (h.1.cell hv.c0) (h.1.cell hv.c1) (Graph.mono h.1 hv.gr))
  pre hlen _ (by simp; omega) (by have:=hE.size; simp; omega) ⟨hE.trans hE1,hs3⟩ hJ1)
 have HK:=dh (KpF.ext X.ok (n:=w0.heap.size) hE.size hN hE1);have c0:=(hE.trans hE1).cell hv.c0;have hb3:=hs3.cell (j:=0) rfl;obtain ⟨b,off,pa,pl,pc,ma,ml,mc,oa,ol,oc,rfl,hlt2,hT⟩:=Graph.at (Graph.mono (hE.trans hE1) hv.gr) ht;have d0:=hT.c0;have HJ1:=dh hJ1;clear hs3 hE1 hT hv hJ1 h0 hE;by_cases h5:(nth g t).kind=5
 ·have Hs:=dh (show nullL g t=toL 3 g.length fun u=>!isWordB (nth g u).kind by unfold nullL; rw [if_pos h5]);rw [h5] at d0;clear h5;refine callsIn_of_wp Tryz.func140 rfl trivial ?_ rfl;simp only [Tryz.ntmps140,List.size_toArray,List.length_cons,List.length_nil,Nat.reduceAdd,Nat.reduceSub,Array.replicate_succ,Array.replicate_zero,List.push_toArray,List.append_toArray,List.nil_append,List.cons_append];gi_wp2_with fail;refine ⟨trivial,fun h=>(by cases h),hto.out.mono ?_⟩;rintro e W3 hP;have HP:=dh hP;rcases hP with ⟨rfl,_⟩ | ⟨rfl,_⟩
  ·gi_wp2_with fail;go_ret;rw [Hs.out];exact YPost.step HK.out HP.out
  ·gi_wp2_with fail;go_ret;rw [Hs.out];exact YPost.step HK.out HP.out
 ·have Hs:=dh (show nullL g t=[] by unfold nullL; rw [if_neg h5]);have h5b:((nth g t).kind==5)=false:=by rw [beq_eq_false_iff_ne]; exact h5
  have h5c:((nth g t).kind != 5)=true:=by simp only [bne,h5b]; rfl
  clear h5;refine callsIn_of_wp Tryz.func140 rfl trivial ?_ rfl;simp only [Tryz.ntmps140,List.size_toArray,List.length_cons,List.length_nil,Nat.reduceAdd,Nat.reduceSub,Array.replicate_succ,Array.replicate_zero,List.push_toArray,List.append_toArray,List.nil_append,List.cons_append];gi_wp2_with fail;refine ⟨trivial,?_⟩;gi_wp2_with fail;go_ret;rw [Hs.out];exact Or.inl ⟨rfl,by rw [List.append_nil]; exact HJ1.out,HK.out⟩
end
section
open Go.RowKit Go.Proofs Go.Shelf
attribute [local go_sem] Oper.semAt_some
def widerL (g:List Ty) (t:Nat):List Stp:=if (nth g t).kind=3 then toL 2 g.length fun u=>widerB (nth g t) (nth g u) else []
theorem wider139 {N NN nV l:Nat} {w0:World} {foot:World->Nat->Prop} {J Jx:List Stp->World->Prop} (X:YCtx N NN nV l w0 foot J Jx) (m vb:Nat) (g:List Ty) (C:Nat->Nat) (rs:List Reveal) (S:List Nat) (gv cv rv av:Value) (hv:EnvW w0 vb g C rs S gv cv rv av)
  (hn:g.length<=400) (hnV:g.length<=nV) (t:Nat) (ht:t<g.length) (pre:List Stp) (hlen:pre.length+g.length<=NN) (W:World) (hE:Ext w0 W) (hN:N<=W.heap.size) (h0:J pre W) :
  CallsIn Fence.wide m Tryz.prog 139 #[.pointer (some ⟨vb,0,none⟩),.int .i64 t,.func (.yield l) #[] #[]] W (YPost w0.heap.size foot J Jx pre (widerL g t) W):=by
 obtain ⟨ga,gc,rfl,_⟩:=id hv.gr;obtain ⟨ca,cc,rfl,_⟩:=id hv.cl;have hb:=(SlW.bound hv.gr).2;obtain ⟨b,off,pa,pl,pc,ma,ml,mc,oa,ol,oc,hgo,hlt2,hT⟩:=Graph.at hv.gr ht;subst hgo;obtain ⟨d0,d1,d2,d3,d4,d5,d6,d7,d8,d9,_,_,_,_⟩:=hT;have hE1:=Ext.alloc W (.cells #[.pointer (some ⟨vb,0,none⟩)] 28);have hE2:=Ext.alloc (W.alloc (.cells #[.pointer (some ⟨vb,0,none⟩)] 28)) (.cells #[.int .u8 (nth g t).kind,.int .i64 (nth g t).low,.int .i64 (nth g t).high,.bool (nth g t).branded,.string (nth g t).brand,.string (nth g t).opq,.int .i64 (nth g t).super,.slice pa pl pc,.slice ma ml mc,.slice oa ol oc] 50);have hs3:Safe foot ((W.alloc (.cells #[.pointer (some ⟨vb,0,none⟩)] 28)).alloc (.cells #[.int .u8 (nth g t).kind,.int .i64 (nth g t).low,.int .i64 (nth g t).high,.bool (nth g t).branded,.string (nth g t).brand,.string (nth g t).opq,.int .i64 (nth g t).super,.slice pa pl pc,.slice ma ml mc,.slice oa ol oc] 50)) W.heap.size #[.pointer (some ⟨vb,0,none⟩)] 28 :=
  (Safe.new X.ok W hN _ _ (Or.inl (by decide))).ext X.ok (by simp; omega) hE2
 have hs7:Safe foot ((W.alloc (.cells #[.pointer (some ⟨vb,0,none⟩)] 28)).alloc (.cells #[.int .u8 (nth g t).kind,.int .i64 (nth g t).low,.int .i64 (nth g t).high,.bool (nth g t).branded,.string (nth g t).brand,.string (nth g t).opq,.int .i64 (nth g t).super,.slice pa pl pc,.slice ma ml mc,.slice oa ol oc] 50)) (W.heap.size+1) #[.int .u8 (nth g t).kind,.int .i64 (nth g t).low,.int .i64 (nth g t).high,.bool (nth g t).branded,.string (nth g t).brand,.string (nth g t).opq,.int .i64 (nth g t).super,.slice pa pl pc,.slice ma ml mc,.slice oa ol oc] 50:=by
  have:=Safe.new X.ok (W.alloc (.cells #[.pointer (some ⟨vb,0,none⟩)] 28)) (by simp; omega) #[.int .u8 (nth g t).kind,.int .i64 (nth g t).low,.int .i64 (nth g t).high,.bool (nth g t).branded,.string (nth g t).brand,.string (nth g t).opq,.int .i64 (nth g t).super,.slice pa pl pc,.slice ma ml mc,.slice oa ol oc] 50 (Or.inl (by decide))
  rwa [World.size_alloc] at this
 have hJ1:=X.gr _ _ _ h0 (grown_of_ext (hE1.trans hE2));have hto:=dh (to166 N w0.heap.size NN nV l (m-1) foot X.ok J Jx X.Y X.gr 168 enters168 #[.pointer (some ⟨W.heap.size,0,none⟩),.pointer (some ⟨W.heap.size+1,0,none⟩)] 2 vb (by decide) _ g.length gc hn hnV (fun u=>widerB (nth g t) (nth g u))
  (fun W'=>Ext w0 W'/\Safe foot W' W.heap.size #[.pointer (some ⟨vb,0,none⟩)] 28/\Safe foot W' (W.heap.size+1) #[.int .u8 (nth g t).kind,.int .i64 (nth g t).low,.int .i64 (nth g t).high,.bool (nth g t).branded,.string (nth g t).brand,.string (nth g t).opq,.int .i64 (nth g t).super,.slice pa pl pc,.slice ma ml mc,.slice oa ol oc] 50)
  (fun A B h k=>⟨ext_kpf h.1 k,h.2.1.kept k,h.2.2.kept k⟩) (fun A h=>h.1.cell hv.c0)
  (fun u A hu h=>wider168 u _ _ vb _ g.length gc g (nth g t) A hu (h.2.1.cell rfl) (h.1.cell hv.c0) (h.2.2.cell rfl) (h.2.2.cell rfl) (Graph.mono h.1 hv.gr))
  pre hlen _ (by simp; omega) (by have:=hE.size; simp; omega) ⟨hE.trans (hE1.trans hE2),hs3,hs7⟩ hJ1)
 have HK:=dh (KpF.ext X.ok (n:=w0.heap.size) hE.size hN (hE1.trans hE2));have c0:=(hE.trans hE1).cell hv.c0;have d0:=(hE.trans hE1).cell d0;have d1:=(hE.trans hE1).cell d1;have d2:=(hE.trans hE1).cell d2;have d3:=(hE.trans hE1).cell d3;have d4:=(hE.trans hE1).cell d4;have d5:=(hE.trans hE1).cell d5;have d6:=(hE.trans hE1).cell d6;have d7:=(hE.trans hE1).cell d7;have d8:=(hE.trans hE1).cell d8;have d9:=(hE.trans hE1).cell d9;have HJ1:=dh hJ1;clear hs3 hs7 hE1 hE2 hv hJ1 h0 hE;by_cases h5:(nth g t).kind=3
 ·have Hs:=dh (show widerL g t=toL 2 g.length fun u=>widerB (nth g t) (nth g u) by unfold widerL; rw [if_pos h5]);have h5b:((nth g t).kind==3)=true:=by rw [beq_iff_eq]; exact h5
  have h5c:((nth g t).kind != 3)=false:=by simp only [bne,h5b]; rfl
  clear h5;refine callsIn_of_wp Tryz.func139 rfl trivial ?_ rfl;simp only [Tryz.ntmps139,List.size_toArray,List.length_cons,List.length_nil,Nat.reduceAdd,Nat.reduceSub,Array.replicate_succ,Array.replicate_zero,List.push_toArray,List.append_toArray,List.nil_append,List.cons_append];gi_wp2_with fail;refine ⟨trivial,fun h=>(by cases h),hto.out.mono ?_⟩;rintro e W3 hP;have HP:=dh hP;rcases hP with ⟨rfl,_⟩ | ⟨rfl,_⟩
  ·gi_wp2_with fail;go_ret;rw [Hs.out];exact YPost.step HK.out HP.out
  ·gi_wp2_with fail;go_ret;rw [Hs.out];exact YPost.step HK.out HP.out
 ·have Hs:=dh (show widerL g t=[] by unfold widerL; rw [if_neg h5]);have h5b:((nth g t).kind==3)=false:=by rw [beq_eq_false_iff_ne]; exact h5
  have h5c:((nth g t).kind != 3)=true:=by simp only [bne,h5b]; rfl
  clear h5;refine callsIn_of_wp Tryz.func139 rfl trivial ?_ rfl;simp only [Tryz.ntmps139,List.size_toArray,List.length_cons,List.length_nil,Nat.reduceAdd,Nat.reduceSub,Array.replicate_succ,Array.replicate_zero,List.push_toArray,List.append_toArray,List.nil_append,List.cons_append];gi_wp2_with fail;refine ⟨trivial,?_⟩;gi_wp2_with fail;go_ret;rw [Hs.out];exact Or.inl ⟨rfl,by rw [List.append_nil]; exact HJ1.out,HK.out⟩
end
section
open Go.RowKit Go.Proofs Go.Shelf
attribute [local go_sem] Oper.semAt_some
def superL (g:List Ty) (t:Nat):List Stp:=if hasSuperB (nth g t).kind then [⟨4,(nth g t).super.toNat,0⟩] else []
theorem super141 {N NN nV l:Nat} {w0:World} {foot:World->Nat->Prop} {J Jx:List Stp->World->Prop} (X:YCtx N NN nV l w0 foot J Jx) (m vb:Nat) (g:List Ty) (C:Nat->Nat) (rs:List Reveal) (S:List Nat) (gv cv rv av:Value) (hv:EnvW w0 vb g C rs S gv cv rv av)
  (hnV:g.length<=nV) (t:Nat) (ht:t<g.length) (hr:rightB g (nth g t)=true) (pre:List Stp) (hlen:pre.length+g.length<=NN) (W:World) (hE:Ext w0 W) (hN:N<=W.heap.size) (h0:J pre W) :
  CallsIn Fence.wide m Tryz.prog 141 #[.pointer (some ⟨vb,0,none⟩),.int .i64 t,.func (.yield l) #[] #[]] W (YPost w0.heap.size foot J Jx pre (superL g t) W):=by
 obtain ⟨ga,gc,rfl,_⟩:=id hv.gr;obtain ⟨ca,cc,rfl,_⟩:=id hv.cl;have hb:=(SlW.bound hv.gr).2;have hv1:=EnvW.mono hE hv;have c0:=hv1.c0;have c1:=hv1.c1;obtain ⟨b,off,pa,pl,pc,ma,ml,mc,oa,ol,oc,rfl,hlt2,hT⟩:=Graph.at hv1.gr ht;have d6:=hT.c6;obtain ⟨cn,hcn⟩:∃ cn,cn=((List.range g.length).map fun i=>(C i:Int)).length:=⟨_,rfl⟩;rw [<- hcn] at c1;have Habove:=dh (isAbove97 _ g.length gc (.slice ca cn cc) g t W hv1.gr ht ⟨ca,cn,cc,rfl⟩);clear hcn hT hv1 hv;have H0:=dh h0; clear h0;cases hs:hasSuperB (nth g t).kind
 ·have Hs:=dh (show superL g t=[] by unfold superL; rw [hs]; rfl);rw [hs] at Habove;clear hs;refine callsIn_of_wp Tryz.func141 rfl trivial ?_ rfl;simp only [Tryz.ntmps141,List.size_toArray,List.length_cons,List.length_nil,Nat.reduceAdd,Nat.reduceSub,Array.replicate_succ,Array.replicate_zero,List.push_toArray,List.append_toArray,List.nil_append,List.cons_append];gi_wp2_with fail;refine ⟨trivial,fun h=>(by cases h),callsIn_wide.2 (Habove.out.mono ?_)⟩;rintro e w2 ⟨rfl,hE2⟩;have HK:=dh (KpF.ext X.ok (n:=w0.heap.size) hE.size hN hE2);have HJ:=dh (X.gr _ _ _ H0.out (grown_of_ext hE2));clear hE2;gi_wp2_with fail;refine ⟨fun _ h=>(by cases h),?_⟩;gi_wp2_with fail;go_ret;rw [Hs.out];exact Or.inl ⟨rfl,by rw [List.append_nil]; exact HJ.out,HK.out⟩
 ·obtain ⟨s0,s1⟩:=right_super hr hs;obtain ⟨sn,hsn⟩:∃ sn:Nat,(nth g t).super=sn:=⟨(nth g t).super.toNat,(Int.toNat_of_nonneg s0).symm⟩;have Hs:=dh (show superL g t=[⟨4,sn,0⟩] by unfold superL; rw [hs,hsn]; simp);rw [hs] at Habove;rw [hsn] at d6;have hsl:sn<nV:=by omega
  clear hs hsn s0 s1;refine callsIn_of_wp Tryz.func141 rfl trivial ?_ rfl;simp only [Tryz.ntmps141,List.size_toArray,List.length_cons,List.length_nil,Nat.reduceAdd,Nat.reduceSub,Array.replicate_succ,Array.replicate_zero,List.push_toArray,List.append_toArray,List.nil_append,List.cons_append];gi_wp2_with fail;refine ⟨trivial,fun h=>(by cases h),callsIn_wide.2 (Habove.out.mono ?_)⟩;rintro e w2 ⟨rfl,hE2⟩;have c0:=hE2.cell c0;have d6:=hE2.cell d6;have hK:=KpF.ext X.ok (n:=w0.heap.size) hE.size hN hE2;obtain ⟨fn,tmps,assign,body,hy,hR⟩:=X.Y pre ⟨4,sn,0⟩ w2 ⟨by show 4<=7; decide,hsl,by show 0<60; decide⟩ (X.gr _ _ _ H0.out (grown_of_ext hE2)) (by omega);have hy2:(Instr.yield l #[.agg #[.int .u8 4,.int .i64 (sn:Int),.int .i64 0]]).run Tryz.prog w2=.ok (.round l fn tmps assign body) w2:=hy;have HK:=dh hK;clear hy hE2 hK;gi_wp2_with fail;refine ⟨fun h=>(by cases h),(hR _).mono ?_⟩;rintro e W3 (⟨rfl,hH⟩ | ⟨rfl,hJx⟩)
  ·gi_wp2_with fail;go_ret;rw [Hs.out];exact Or.inl ⟨rfl,hH.out.1,HK.out.trans hH.out.2⟩
  ·gi_wp2_with fail;go_ret;rw [Hs.out];exact Or.inr ⟨rfl,_,List.prefix_refl _,hJx.out⟩
end
section
open Go.RowKit Go.Proofs
def stepTable:Array Value:=#[.nilFunc,.func (.func 138) #[] #[],.func (.func 139) #[] #[],.func (.func 140) #[] #[],.func (.func 141) #[] #[],.func (.func 142) #[] #[],.func (.func 143) #[] #[],.func (.func 144) #[] #[]]
theorem rules107 (w:World):Calls Tryz.prog 107 #[] w fun e w'=>e=.returned (.agg stepTable)/\Ext w w':=by
 go_enter Tryz.func107,Tryz.ntmps107
 go_wp2;refine bodyPost_ret (v:=.agg stepTable) ?_ rfl ⟨rfl,by (repeat (first | exact Ext.refl _ | (refine Ext.trans ?_ (Hid.out (by assumption))) | (refine Ext.trans ?_ (Ext.alloc _ _)) | (refine Ext.trans ?_ (Ext.drew _)) | (refine below_drewN ?_ _)))⟩;simp [results,Tryz.results107,go_sem,stepTable]
theorem steps71 (vb:Nat) (t:Int) (w:World):Calls Tryz.prog 71 #[.pointer (some ⟨vb,0,none⟩),.int .i64 t] w fun e w' =>
  e=.returned (.func (.func 106) #[] #[.pointer (some ⟨w.heap.size,0,none⟩),.pointer (some ⟨w.heap.size+1,0,none⟩)]) /\
  w'=(w.alloc (.cells #[.pointer (some ⟨vb,0,none⟩)] 28)).alloc (.cells #[.int .i64 t] 3):=by
 go_enter Tryz.func71,Tryz.ntmps71
 go_wp2;go_ret;exact ⟨rfl,rfl⟩
end
section
open Go.RowKit Go.Proofs Go.Shelf
attribute [local go_sem] Oper.semAt_some
def backOf (g:List Ty) (x:Reveal) (t i k:Nat):List Stp:=if x.full&&x.type==(t:Int) then ((List.range k).filter fun u=>(nth g u).kind==13&&(nth g u).opq==x.name).map fun u=>⟨6,u,i⟩ else []
def backUpTo (g:List Ty) (rs:List Reveal) (t k:Nat):List Stp:=((List.range k).map fun i=>backOf g (nth rs i) t i g.length).flatten
def backL (g:List Ty) (rs:List Reveal) (t:Nat):List Stp:=backUpTo g rs t rs.length
theorem backUpTo_succ (g:List Ty) (rs:List Reveal) (t k:Nat):backUpTo g rs t (k+1)=backUpTo g rs t k++backOf g (nth rs k) t k g.length:=by
 unfold backUpTo;rw [List.range_succ,List.map_append,List.flatten_append]; simp
theorem backUpTo_prefix (g:List Ty) (rs:List Reveal) (t:Nat):∀ n k,k<=n->backUpTo g rs t k <+: backUpTo g rs t n
 | 0,k,h=>by rw [Nat.le_zero.1 h]; exact List.prefix_refl _
 | n+1,k,h=>by
  by_cases hk:k=n+1
  ·rw [hk]; exact List.prefix_refl _
  ·rw [backUpTo_succ];exact (backUpTo_prefix g rs t n k (by omega)).trans (List.prefix_append _ _)
theorem backOf_no (g:List Ty) (x:Reveal) (t i k:Nat) (h:(x.full&&x.type==(t:Int))=false):backOf g x t i k=[]:=by unfold backOf; rw [h]; rfl
theorem backOf_hit (g:List Ty) (x:Reveal) (t i k:Nat) (h:(x.full&&x.type==(t:Int))=true) (h2:((nth g k).kind==13&&(nth g k).opq==x.name)=true):backOf g x t i (k+1)=backOf g x t i k++[⟨6,k,i⟩]:=by
 unfold backOf; rw [h,if_pos rfl,if_pos rfl,filter_snoc,h2]; simp
theorem backOf_miss (g:List Ty) (x:Reveal) (t i k:Nat) (h2:((nth g k).kind==13&&(nth g k).opq==x.name)=false):backOf g x t i (k+1)=backOf g x t i k:=by
 unfold backOf; rw [filter_snoc,h2]; simp
theorem backOf_len (g:List Ty) (x:Reveal) (t i k:Nat):(backOf g x t i k).length<=k:=by
 unfold backOf;split
 ·have:=List.length_filter_le (fun u=>(nth g u).kind==13&&(nth g u).opq==x.name) (List.range k)
  simpa using this
 ·simp
theorem backUpTo_len (g:List Ty) (rs:List Reveal) (t:Nat):∀ k,(backUpTo g rs t k).length<=k*g.length
 | 0=>by simp [backUpTo]
 | k+1=>by
  rw [backUpTo_succ,List.length_append,Nat.succ_mul];have:=backUpTo_len g rs t k;have:=backOf_len g (nth rs k) t k g.length;omega
end
section
open Go.RowKit Go.Proofs Go.Shelf
attribute [local go_sem] Oper.semAt_some
theorem backOf_prefix (g:List Ty) (x:Reveal) (t i:Nat):∀ n k,k<=n->backOf g x t i k <+: backOf g x t i n
 | 0,k,h=>by rw [Nat.le_zero.1 h]; exact List.prefix_refl _
 | n+1,k,h=>by
  by_cases hk:k=n+1
  ·rw [hk]; exact List.prefix_refl _
  ·refine (backOf_prefix g x t i n k (by omega)).trans ?_;unfold backOf;split
   ·rw [filter_snoc,List.map_append]; exact List.prefix_append _ _
   ·exact List.prefix_refl _
theorem back143 {N NN nV l:Nat} {w0:World} {foot:World->Nat->Prop} {J Jx:List Stp->World->Prop} (X:YCtx N NN nV l w0 foot J Jx) (m vb:Nat) (g:List Ty) (C:Nat->Nat) (rs:List Reveal) (S:List Nat) (gv cv rv av:Value) (hv:EnvW w0 vb g C rs S gv cv rv av)
  (hn:g.length<=400) (hnV:g.length<=nV) (hrs:rs.length<=60) (t:Nat) (ht:t<g.length) (pre:List Stp) (hlen:pre.length+60*400+400<=NN) (W:World) (hE:Ext w0 W) (hN:N<=W.heap.size) (h0:J pre W) :
  CallsIn Fence.wide m Tryz.prog 143 #[.pointer (some ⟨vb,0,none⟩),.int .i64 t,.func (.yield l) #[] #[]] W (YPost w0.heap.size foot J Jx pre (backL g rs t) W):=by
 obtain ⟨ga,gc,rfl,_⟩:=id hv.gr;obtain ⟨ra,rc,rfl,_⟩:=id hv.re;have hb:=(SlW.bound hv.gr).2;have hb2:=(SlW.bound hv.re).2;have c2:=hE.cell hv.c2;have H0:=dh h0; clear h0;have HE:=dh hE; clear hE;have Hv:=dh hv; clear hv;refine callsIn_of_wp Tryz.func143 rfl trivial ?_ rfl;simp only [Tryz.ntmps143,List.size_toArray,List.length_cons,List.length_nil,Nat.reduceAdd,Nat.reduceSub,Array.replicate_succ,Array.replicate_zero,List.push_toArray,List.append_toArray,List.nil_append,List.cons_append]
 gi_upto_region 2 with (fail)
 gi_loopw [7,8,9,10,16] (fun _ _ _ _ i wr=>∃ k:Nat,k<=rs.length/\i=.int .i64 k/\Hid (J (pre++backUpTo g rs t k) wr/\Ext w0 wr/\KpF w0.heap.size foot W wr)) (fun _ _ _ _ i _=>rs.length-(intOf i).toNat)
 case atStart=>exact ⟨0,Nat.zero_le _,rfl,by simpa [backUpTo] using H0.out,HE.out,KpF.refl _ _ _⟩
 case round =>
  clear c2 H0 HE;obtain ⟨k,hk,rfl,hH⟩:=hrel;have H1:=dh hH.out.1;have HE1:=dh hH.out.2.1;have HK1:=dh hH.out.2.2;clear hH;by_cases hlt:k<rs.length
  ·obtain ⟨b,off,hro,hrl,d0,d1,d2,_⟩:=Reveals.at (Reveals.mono HE1.out Hv.out.re) hlt;subst hro;have hsz:=HK1.out.below.size;cases hf:(nth rs k).full
   ·rw [hf] at d1;have Hs:=dh (show backUpTo g rs t (k+1)=backUpTo g rs t k by rw [backUpTo_succ,backOf_no _ _ _ _ _ (by rw [hf]; rfl),List.append_nil]);have hE2:=Ext.alloc wr (.cells #[.string (nth rs k).name,.bool (nth rs k).full,.int .i64 (nth rs k).type] 43);have HJ:=dh (X.gr _ _ _ H1.out (grown_of_ext hE2));have HEx:=dh (HE1.out.trans hE2);have HKx:=dh (HK1.out.trans (KpF.ext X.ok (n:=w0.heap.size) HE1.out.size (by omega) hE2));clear hE2;rw [hf] at HJ HEx HKx;clear hf;gi_wp2_with fail;go_roundw
    case rel=>exact ⟨k+1,by omega,by go_num,by rw [Hs.out]; exact HJ.out,HEx.out,HKx.out⟩
    case measure=>simp [intOf]; omega
   by_cases hty:(nth rs k).type=t
   ·have hyes:((nth rs k).full&&(nth rs k).type==(t:Int))=true:=by rw [hf,hty]; simp
    rw [hf] at d1;rw [hty] at d2;have hE2:=Ext.alloc wr (.cells #[.string (nth rs k).name,.bool true,.int .i64 (t:Int)] 43);have hS:=Safe.new X.ok wr (by omega) #[.string (nth rs k).name,.bool true,.int .i64 (t:Int)] 43 (Or.inl (by decide));have HJ:=dh (X.gr _ _ _ H1.out (grown_of_ext hE2));have HEx:=dh (HE1.out.trans hE2);have HKx:=dh (HK1.out.trans (KpF.ext X.ok (n:=w0.heap.size) HE1.out.size (by omega) hE2));have HS:=dh hS;have Hyes:=dh hyes;have e0:=HEx.out.cell Hv.out.c0;clear hE2 hS hyes hf hty
    gi_upto_region 6 with (fail)
    obtain ⟨b8,h8⟩:∃ b8,b8=wr.heap.size:=⟨_,rfl⟩;rw [<- h8] at HS ⊢;obtain ⟨W8,hW8⟩:∃ W8:World,W8=wr.alloc (.cells #[.string (nth rs k).name,.bool true,.int .i64 (t:Int)] 43):=⟨_,rfl⟩;rw [<- hW8] at HJ HEx HKx HS ⊢;clear e0 hW8 h8
    gi_loopw [9,10,36] (fun _ _ i wx=>∃ u:Nat,u<=g.length/\i=.int .i64 u/\Hid (J (pre++backUpTo g rs t k++backOf g (nth rs k) t k u) wx/\Ext w0 wx/\KpF w0.heap.size foot W wx/\Safe foot wx b8 #[.string (nth rs k).name,.bool true,.int .i64 (t:Int)] 43)) (fun _ _ i _=>g.length-(intOf i).toNat)
    case atStart=>exact ⟨0,Nat.zero_le _,rfl,by simpa [backOf] using HJ.out,HEx.out,HKx.out,HS.out⟩
    case round =>
     clear HJ HEx HKx HS;obtain ⟨u,hu,rfl,hH⟩:=hrel;have H2:=dh hH.out.1;have HE2:=dh hH.out.2.1;have HK2:=dh hH.out.2.2.1;have HS2:=dh hH.out.2.2.2;clear hH;by_cases hul:u<g.length
     ·obtain ⟨b,off,pa,pl,pc,ma,ml,mc,oa,ol,oc,hgo,hlt2,hT⟩:=Graph.at (Graph.mono HE2.out Hv.out.gr) hul;subst hgo;obtain ⟨y0,y1,y2,y3,y4,y5,y6,y7,y8,y9,_,_,_,_⟩:=hT;have n0:=HS2.out.cell (j:=0) rfl;have hl8:b8<_:=cell_lt n0;have hsz2:=HK2.out.below.size;have hE3:=Ext.alloc wr (.cells #[.int .u8 (nth g u).kind,.int .i64 (nth g u).low,.int .i64 (nth g u).high,.bool (nth g u).branded,.string (nth g u).brand,.string (nth g u).opq,.int .i64 (nth g u).super,.slice pa pl pc,.slice ma ml mc,.slice oa ol oc] 50);have HJ3:=dh (X.gr _ _ _ H2.out (grown_of_ext hE3));have HE3:=dh (HE2.out.trans hE3);have HK3:=dh (HK2.out.trans (KpF.ext X.ok (n:=w0.heap.size) HE2.out.size (by omega) hE3));have HS3:=dh (HS2.out.ext X.ok (by omega) hE3);clear hE3;by_cases h13:(nth g u).kind=13
      ·have h13b:((nth g u).kind==13)=true:=by rw [beq_iff_eq]; exact h13
       cases hnm:((nth g u).opq.toList==(nth rs k).name.toList)
       ·have Hs:=dh (backOf_miss g (nth rs k) t k u (by rw [h13b,beq_toListBytes,hnm]; rfl));clear h13;gi_wp2_with fail;refine ⟨fun _ h=>(by cases h),?_⟩;gi_wp2_with fail;go_roundw
        case rel=>exact ⟨u+1,by omega,by go_num,by rw [Hs.out]; exact HJ3.out,HE3.out,HK3.out,HS3.out⟩
        case measure=>simp [intOf]; omega
       ·have Hs:=dh (backOf_hit g (nth rs k) t k u Hyes.out (by rw [h13b,beq_toListBytes,hnm]; rfl));have hl1:=backUpTo_len g rs t k;have hl2:=backOf_len g (nth rs k) t k u;have hl3:k*g.length<=60*400:=Nat.mul_le_mul (by omega) hn;obtain ⟨fn,tmps,assign,body,hy,hR⟩:=X.Y (pre++backUpTo g rs t k++backOf g (nth rs k) t k u) ⟨6,u,k⟩ _ ⟨by show 6<=7; decide,by show u<nV; omega,by show k<60; omega⟩ HJ3.out (by rw [List.length_append,List.length_append]; omega);simp only [encStp] at hy;have hy2:=hy;rw [show (((6:Nat):Int))=6 from rfl] at hy2;clear h13 hl1 hl2 hl3 hy;gi_wp2_with fail;refine ⟨fun h=>(by cases h),(hR _).mono ?_⟩;rintro e W3 (⟨rfl,hH⟩ | ⟨rfl,hJx⟩)
        ·gi_wp2_with fail;go_roundw
         case rel=>exact ⟨u+1,by omega,by go_num,by rw [Hs.out,<- List.append_assoc]; exact hH.out.1,ext_kpf HE3.out hH.out.2,HK3.out.trans hH.out.2,HS3.out.kept hH.out.2⟩
         case measure=>simp [intOf]; omega
        ·gi_wp2_with fail;go_ret;refine Or.inr ⟨rfl,backUpTo g rs t k++backOf g (nth rs k) t k (u+1),?_,by rw [Hs.out,<- List.append_assoc,<- List.append_assoc]; exact hJx.out⟩;exact ((List.prefix_append_right_inj _).2 (backOf_prefix g _ t k g.length (u+1) (by omega))).trans (by rw [<- backUpTo_succ]; exact backUpTo_prefix g rs t rs.length (k+1) (by omega))
      ·have h13b:((nth g u).kind==13)=false:=by rw [beq_eq_false_iff_ne]; exact h13
       have Hs:=dh (backOf_miss g (nth rs k) t k u (by rw [h13b,Bool.false_and]));clear h13;gi_wp2_with fail;refine ⟨fun _ h=>(by cases h),?_⟩;gi_wp2_with fail;go_roundw
       case rel=>exact ⟨u+1,by omega,by go_num,by rw [Hs.out]; exact HJ3.out,HE3.out,HK3.out,HS3.out⟩
       case measure=>simp [intOf]; omega
     ·have hue:u=g.length:=by omega
      have Hs:=dh (show backUpTo g rs t k++backOf g (nth rs k) t k u=backUpTo g rs t (k+1) by rw [hue,backUpTo_succ]);have hn2:¬ u<g.length:=hul;subst hue;gi_wp2_with fail;go_roundw
      case rel=>exact ⟨k+1,by omega,by go_num,by rw [<- Hs.out,<- List.append_assoc]; exact H2.out,HE2.out,HK2.out⟩
      case measure=>simp [intOf]; omega
   ·have htb:((nth rs k).type==(t:Int))=false:=by rw [beq_eq_false_iff_ne]; exact hty
    have htc:((nth rs k).type != (t:Int))=true:=by simp only [bne,htb]; rfl
    rw [hf] at d1;have Hs:=dh (show backUpTo g rs t (k+1)=backUpTo g rs t k by rw [backUpTo_succ,backOf_no _ _ _ _ _ (by rw [htb,Bool.and_false]),List.append_nil]);have hE2:=Ext.alloc wr (.cells #[.string (nth rs k).name,.bool (nth rs k).full,.int .i64 (nth rs k).type] 43);have HJ:=dh (X.gr _ _ _ H1.out (grown_of_ext hE2));have HEx:=dh (HE1.out.trans hE2);have HKx:=dh (HK1.out.trans (KpF.ext X.ok (n:=w0.heap.size) HE1.out.size (by omega) hE2));clear hE2;rw [hf] at HJ HEx HKx;clear hf hty;gi_wp2_with fail;go_roundw
    case rel=>exact ⟨k+1,by omega,by go_num,by rw [Hs.out]; exact HJ.out,HEx.out,HKx.out⟩
    case measure=>simp [intOf]; omega
  ·have:k=rs.length:=by omega
   subst this;gi_wp2_with fail;go_ret;exact Or.inl ⟨rfl,H1.out,HK1.out⟩
end
section
open Go.RowKit Go.Proofs
def byN (rs:List Reveal) (k:Nat) (name:BA):List Nat:=(List.range k).filter fun i=>(nth rs i).name==name
theorem byN_hit (rs:List Reveal) (k:Nat) (name:BA) (h:((nth rs k).name==name)=true):byN rs (k+1) name=byN rs k name++[k]:=by unfold byN; rw [filter_snoc,h]; simp
theorem byN_miss (rs:List Reveal) (k:Nat) (name:BA) (h:((nth rs k).name==name)=false):byN rs (k+1) name=byN rs k name:=by unfold byN; rw [filter_snoc,h]; simp
theorem byN_len (rs:List Reveal) (k:Nat) (name:BA):(byN rs k name).length<=k:=by
 unfold byN;have:=List.length_filter_le (fun i=>(nth rs i).name==name) (List.range k)
 simpa using this
theorem byN_lt {rs:List Reveal} {k:Nat} {name:BA} {i:Nat} (h:i∈byN rs k name):i<k:=List.mem_range.1 (List.mem_filter.1 h).1
structure ByAt (w:World) (vb:Nat) (rs:List Reveal) (mb:Nat) (m:List (BA × Value)):Prop where
 c3:w.cell? ⟨vb,3,none⟩=some (.map (some mb))
 at_:MapAt Value.string w mb m
 row:∀ name,Ints w ((alook name m).getD (.slice none 0 0)) (numsOf (byN rs rs.length name))
theorem ByAt.mono {w w':World} {vb:Nat} {rs:List Reveal} {mb:Nat} {m:List (BA × Value)} (hE:Ext w w') (h:ByAt w vb rs mb m):ByAt w' vb rs mb m:=⟨hE.cell h.c3,h.at_.ext hE,fun name=>Ints.mono hE (h.row name)⟩
def upsL (g:List Ty) (rs:List Reveal) (t:Nat):List Nat :=
 if hasSuperB (nth g t).kind then (nth g t).super.toNat :: (if (nth g t).kind=13 then (byN rs rs.length (nth g t).opq).map fun i=>(nth rs i).type.toNat else []) else []
theorem zero35:∀ w,(zeroValue 35).run Tryz.prog w=.ok (.slice none 0 0) w:=fun _=>by kernel_rfl
theorem zero4:∀ w,(zeroValue 4).run Tryz.prog w=.ok (.bool false) w:=fun _=>by kernel_rfl
theorem zero5:∀ w,(zeroValue 5).run Tryz.prog w=.ok (.int .u8 0) w:=fun _=>by kernel_rfl
theorem numsOf_at {w:World} {a:Option Addr} {n c:Nat} {l:List Nat} (h:Ints w (.slice a n c) (numsOf l)) {i:Nat} (hi:i<n) :
  ∃ b off,a=some ⟨b,off,none⟩/\w.cell? ⟨b,off+i,none⟩=some (.int .i64 (nth l i:Nat)):=by
 obtain ⟨b,off,ha,_,hc,_⟩:=Ints.at h hi;have hl:n=(numsOf l).length:=SlW.len h;have:nth (numsOf l) i=((nth l i:Nat):Int):=by
  unfold numsOf at hl ⊢;have hil:i<l.length:=by rw [hl] at hi; simpa using hi
  rw [nth_eq (by simpa using hil),nth_eq hil];simp
 rw [this] at hc;exact ⟨b,off,ha,hc⟩
end
end Go.Proofs.YtjffkeoajkhbmaaGreat
