/- The reference's words, and what leads up. slices.Reverse, over steps. The search of a shortest derivation, in plain Lean. -/
import Derived.Test.YtjffkeoajkhbmaaGreatOW6
import Derived.Test.YtjffkeoajkhbmaaGreatOW10
import Derived.Test.YtjffkeoajkhbmaaGreatOW11
import Derived.Test.YtjffkeoajkhbmaaGreatOW13
import Derived.Test.YtjffkeoajkhbmaaGreatOW18
import Derived.Test.YtjffkeoajkhbmaaGreatOW19
namespace Go.Proofs.YtjffkeoajkhbmaaGreat
set_option linter.unusedSimpArgs false
set_option linter.unusedVariables false
set_option maxRecDepth 100000
set_option maxHeartbeats 8000000
section
open Go.RowKit Go.Proofs
theorem bneOf {α:Type} [BEq α] {a b:α} {c:Bool} (h:(a==b)=c):(a != b)=!c:=by unfold bne; rw [h]
theorem word66 (t:Ty) (pa:Option Addr) (pl pc:Nat) (ma:Option Addr) (ml mc:Nat) (oa:Option Addr) (ol oc:Nat) (w:World) :
  Calls Tryz.prog 66 #[.agg (tyArr t pa pl pc ma ml mc oa ol oc)] w fun e w'=>e=.returned (.bool (isWordB t.kind))/\Ext w w':=by
 have hbox:(w.alloc (.cells (tyArr t pa pl pc ma ml mc oa ol oc) 50)).heap[w.heap.size]? = some (.cells (tyArr t pa pl pc ma ml mc oa ol oc) 50 (0,0)):=heap_alloc_new _ _;have b0:=(tyBox_of hbox).c0;clear hbox;cases k1:(t.kind==1)
 ·cases k2:(t.kind==2)
  ·cases k3:(t.kind==3)
   ·have Hv:=dh (show isWordB t.kind=false by unfold isWordB; simp [k1,k2,k3])
    go_enter Tryz.func66,Tryz.ntmps66
    go_wp2_with fail;go_ret;exact ⟨ret_bool Hv.out.symm,Ext.alloc _ _⟩
   ·have Hv:=dh (show isWordB t.kind=true by unfold isWordB; simp [k1,k2,k3])
    go_enter Tryz.func66,Tryz.ntmps66
    go_wp2_with fail;go_ret;exact ⟨ret_bool Hv.out.symm,Ext.alloc _ _⟩
  ·have Hv:=dh (show isWordB t.kind=true by unfold isWordB; simp [k1,k2])
   go_enter Tryz.func66,Tryz.ntmps66
   go_wp2_with fail;go_ret;exact ⟨ret_bool Hv.out.symm,Ext.alloc _ _⟩
 ·have Hv:=dh (show isWordB t.kind=true by unfold isWordB; simp [k1])
  go_enter Tryz.func66,Tryz.ntmps66
  go_wp2_with fail;go_ret;exact ⟨ret_bool Hv.out.symm,Ext.alloc _ _⟩
theorem up_super {g:List Ty} {rs:List Reveal} {a b:Nat} (h:hasSuperB (nth g a).kind=true) (hs:(nth g a).super=(b:Int)):b∈upsL g rs a:=by
 unfold upsL;rw [if_pos h,hs];simp
theorem up_rev {g:List Ty} {rs:List Reveal} {a b k:Nat} (h:(nth g a).kind=13) (hk:k<rs.length) (hn:(nth rs k).name=(nth g a).opq) (ht:(nth rs k).type=(b:Int)):b∈upsL g rs a:=by
 unfold upsL;rw [if_pos (by rw [h]; rfl),if_pos h];refine List.mem_cons_of_mem _ (List.mem_map.2 ⟨k,?_,by rw [ht]; rfl⟩);unfold byN;exact List.mem_filter.2 ⟨List.mem_range.2 hk,by rw [hn]; simp⟩
theorem up_no {g:List Ty} {rs:List Reveal} {a b:Nat} (h0:hasSuperB (nth g a).kind=true->0<=(nth g a).super) (hr:∀ k,k<rs.length->0<=(nth rs k).type)
  (h1:hasSuperB (nth g a).kind=true->(nth g a).super≠(b:Int)) (h2:(nth g a).kind=13->∀ k,k<rs.length->¬ ((nth rs k).name=(nth g a).opq/\(nth rs k).type=(b:Int))):b∉upsL g rs a:=by
 unfold upsL;intro h;split at h
 ·rename_i hs
  rcases List.mem_cons.1 h with h | h
  ·exact h1 hs (by have:=h0 hs; omega)
  ·split at h
   ·rename_i h13
    obtain ⟨k,hk,he⟩:=List.mem_map.1 h;unfold byN at hk;obtain ⟨hk1,hk2⟩:=List.mem_filter.1 hk;have hk1:=List.mem_range.1 hk1;have:=hr k hk1;exact h2 h13 k hk1 ⟨by simpa using hk2,by omega⟩
   ·cases h
 ·cases h
theorem up126 (ga:Option Addr) (n gc:Nat) (g:List Ty) (ra:Option Addr) (rn rc:Nat) (rs:List Reveal) (a b:Nat) (w:World) (hg:Graph w (.slice ga n gc) g) (hre:Reveals w (.slice ra rn rc) rs) (ha:a<n)
  (h0:hasSuperB (nth g a).kind=true->0<=(nth g a).super) (hr:∀ k,k<rs.length->0<=(nth rs k).type) :
  Calls Tryz.prog 126 #[.slice ga n gc,.slice ra rn rc,.int .i64 a,.int .i64 b] w fun e w'=>e=.returned (.bool (decide (b∈upsL g rs a)))/\Ext w w':=by
 have hgb:=(SlW.bound hg).2;have hrb:=(SlW.bound hre).2;obtain rfl:=SlW.len hg;obtain rfl:=SlW.len hre;obtain ⟨gb,gof,pa,pl,pc,ma,ml,mc,oa,ol,oc,hab,hbl,hT⟩:=Graph.at hg ha;cases hab;obtain ⟨c0,c1,c2,c3,c4,c5,c6,c7,c8,c9,_,_,_,_⟩:=hT;obtain ⟨t,ht⟩:∃ t,t=nth g a:=⟨_,rfl⟩;have Hsup:=dh (show hasSuperB t.kind=true->t.super=(b:Int)->b∈upsL g rs a from by rw [ht]; exact up_super);have Hrev:=dh (show ∀ k,t.kind=13->k<rs.length->(nth rs k).name=t.opq->(nth rs k).type=(b:Int)->b∈upsL g rs a from by rw [ht]; exact fun k=>up_rev);have Hno:=dh (show (hasSuperB t.kind=true->t.super≠(b:Int))->(t.kind=13->∀ k,k<rs.length->¬ ((nth rs k).name=t.opq/\(nth rs k).type=(b:Int)))->b∉upsL g rs a from by rw [ht]; exact up_no h0 hr);rw [<- ht] at c0 c1 c2 c3 c4 c5 c6;have Hre:=dh hre;clear hg hre ht h0 hr
 go_enter Tryz.func126,Tryz.ntmps126
 go_upto_region 2 with (fail);obtain ⟨W,hW⟩:∃ W:World,W=w.alloc (.cells (tyArr t pa pl pc ma ml mc oa ol oc) 50):=⟨_,rfl⟩;have HE:=dh (show Ext w W by rw [hW]; exact Ext.alloc _ _);have hbox:W.heap[w.heap.size]? = some (.cells (tyArr t pa pl pc ma ml mc oa ol oc) 50 (0,0)):=by rw [hW]; exact heap_alloc_new _ _
 unfold tyArr at hW;rw [<- hW];clear hW c0 c1 c2 c3 c4 c5 c6 c7 c8 c9;have b0:=(tyBox_of hbox).c0;have b5:=(tyBox_of hbox).c5;have b6:=(tyBox_of hbox).c6;clear hbox;go_cut [34] from 11 (fun v wx=>∃ bb:Bool,v=.bool bb/\Hid (bb=(hasSuperB t.kind&&t.super==(b:Int)))/\wx=W)
 case first =>
  cases hs:(t.super==(b:Int))
  ·cases k12:(t.kind==12)
   ·cases k13:(t.kind==13)
    ·go_wp2_with fail;go_meet;exact ⟨_,rfl,dh (by rw [hs]; simp),rfl⟩
    ·go_wp2_with fail;go_meet;exact ⟨_,rfl,dh (by rw [hs]; simp),rfl⟩
   ·have k13:(t.kind==13)=false:=by rw [beq_iff_eq] at k12; rw [k12]; rfl
    go_wp2_with fail;go_meet;exact ⟨_,rfl,dh (by rw [hs]; simp),rfl⟩
  ·cases k12:(t.kind==12)
   ·cases k13:(t.kind==13)
    ·have Hh:=dh (show hasSuperB t.kind=false by unfold hasSuperB; rw [k12,k13]; rfl);go_wp2_with fail;go_meet;exact ⟨_,rfl,dh (by rw [Hh.out]; simp [hs]),rfl⟩
    ·have Hh:=dh (show hasSuperB t.kind=true by unfold hasSuperB; rw [k12,k13]; rfl);go_wp2_with fail;go_meet;exact ⟨_,rfl,dh (by rw [Hh.out]; simp [hs]),rfl⟩
   ·have Hh:=dh (show hasSuperB t.kind=true by unfold hasSuperB; rw [k12]; rfl);go_wp2_with fail;go_meet;exact ⟨_,rfl,dh (by rw [Hh.out]; simp [hs]),rfl⟩
 case rest =>
  obtain ⟨bb,rfl,Hbb,rfl⟩:=hcut;rename World=>W;cases bb;rotate_left
  ·have Hf:=dh (show decide (b∈upsL g rs a)=true by
    have:=Hbb.out.symm;rw [Bool.and_eq_true,beq_iff_eq] at this;exact decide_eq_true (Hsup.out this.1 this.2))
   go_wp2_with fail;go_ret;exact ⟨ret_bool Hf.out.symm,HE.out⟩
  have Hns:=dh (show hasSuperB t.kind=true->t.super≠(b:Int) from fun h e=>by
   have:=Hbb.out;rw [h,e] at this;simp at this)
  go_upto_region 5 with (fail);go_loopw [10] (fun i wr=>∃ k:Nat,k<=rs.length/\i=.int .i64 k/\Hid (Ext W wr/\∀ j,j<k->¬ ((nth rs j).name=t.opq/\(nth rs j).type=(b:Int)))) (fun i _=>rs.length-(intOf i).toNat)
  case atStart=>exact ⟨0,Nat.zero_le _,rfl,dh ⟨Ext.refl _,fun j hj=>absurd hj (Nat.not_lt_zero _)⟩⟩
  case round =>
   obtain ⟨k,hk,rfl,hH⟩:=hrel;have d0:=hH.out.1.cell b0;have d5:=hH.out.1.cell b5;cases k13:(t.kind==13)
   ·have Hf:=dh (show decide (b∈upsL g rs a)=false from decide_eq_false (Hno.out Hns.out (fun h=>by rw [h] at k13; cases k13)));rcases Nat.lt_or_ge k rs.length with hlt | hge
    ·go_wp2_with fail;go_ret;exact ⟨ret_bool Hf.out.symm,HE.out.trans hH.out.1⟩
    ·go_wp2_with fail;go_ret;exact ⟨ret_bool Hf.out.symm,HE.out.trans hH.out.1⟩
   have K13:=dh k13;by_cases hlt:k<rs.length
   ·obtain ⟨rb,rof,hab,hrl,r0,r1,r2,_⟩:=Reveals.at (Reveals.mono (HE.out.trans hH.out.1) Hre.out) hlt;cases hab;have Hnx:=dh (show ¬ ((nth rs k).name=t.opq/\(nth rs k).type=(b:Int))->∀ j,j<k+1->¬ ((nth rs j).name=t.opq/\(nth rs j).type=(b:Int)) from fun h j hj=>by
     by_cases hjk:j=k
     ·rw [hjk]; exact h
     ·exact hH.out.2 j (by omega))
    cases hn:((nth rs k).name==t.opq)
    ·have HJ:=dh (Hnx.out (fun h=>by rw [h.1] at hn; simp at hn));rw [beq_toListBytes] at hn;go_upto_region 7 with (fail)
     go_quiet (fail)
     go_wp2_with fail;go_roundw
     case rel=>exact ⟨k+1,by omega,by go_num,dh ⟨below_drewN hH.out.1 _,HJ.out⟩⟩
     case measure=>simp [intOf]; omega
    cases ht:((nth rs k).type==(b:Int))
    ·have HJ:=dh (Hnx.out (fun h=>by rw [h.2] at ht; simp at ht));rw [beq_toListBytes] at hn;go_upto_region 7 with (fail)
     go_quiet (fail)
     go_wp2_with fail;go_roundw
     case rel=>exact ⟨k+1,by omega,by go_num,dh ⟨below_drewN hH.out.1 _,HJ.out⟩⟩
     case measure=>simp [intOf]; omega
    ·have Hf:=dh (show decide (b∈upsL g rs a)=true from decide_eq_true (Hrev.out k (by simpa using K13.out) hlt (by simpa using hn) (by simpa using ht)));rw [beq_toListBytes] at hn;go_upto_region 7 with (fail)
     go_quiet (fail)
     go_wp2_with fail;go_ret;exact ⟨ret_bool Hf.out.symm,HE.out.trans (below_drewN hH.out.1 _)⟩
   ·have Hf:=dh (show decide (b∈upsL g rs a)=false from decide_eq_false (Hno.out Hns.out (fun _ j hj=>hH.out.2 j (by omega))));go_wp2_with fail;go_ret;exact ⟨ret_bool Hf.out.symm,HE.out.trans hH.out.1⟩
end
section
open Go.RowKit Go.Proofs Go.Shelf
def StepsRow (W:World) (b n:Nat) (f:Nat->Stp):Prop:=∃ cur,W.heap[b]? = some (.cells cur 93 (0,0))/\∀ p,p<n->cur[p*3]? = some (.int .u8 (f p).rule)/\cur[p*3+1]? = some (.int .i64 (f p).to_)/\cur[p*3+2]? = some (.int .i64 (f p).n)
def revK (f:Nat->Stp) (n k:Nat) (p:Nat):Stp:=if p<k\/n-k<=p then f (n-1-p) else f p
theorem StepsRow.congr {W:World} {b n:Nat} {f g:Nat->Stp} (h:StepsRow W b n f) (hfg:∀ p,p<n->f p=g p):StepsRow W b n g:=by
 obtain ⟨cur,h1,h2⟩:=h;exact ⟨cur,h1,fun p hp=>by rw [<- hfg p hp]; exact h2 p hp⟩
theorem StepsRow.ext {W W':World} {b n:Nat} {f:Nat->Stp} (h:StepsRow W b n f) (hE:Ext W W'):StepsRow W' b n f:=by
 obtain ⟨cur,h1,h2⟩:=h;exact ⟨cur,(hE.block b (row_lt h1)).trans h1,h2⟩
def putStp (W:World) (b p:Nat) (s:Stp):World:=((W.setCell ⟨b,p*3,none⟩ (.int .u8 s.rule)).setCell ⟨b,p*3+1,none⟩ (.int .i64 s.to_)).setCell ⟨b,p*3+2,none⟩ (.int .i64 s.n)
theorem StepsRow.put {W:World} {b n k:Nat} {f:Nat->Stp} (s:Stp) (h:StepsRow W b n f) (hk:k<n):StepsRow (putStp W b k s) b n (fun p=>if p=k then s else f p):=by
 obtain ⟨cur,h1,h2⟩:=h;have a1:=row_set (j:=k*3) (v:=.int .u8 (s.rule:Nat)) h1;have a2:=row_set (j:=k*3+1) (v:=.int .i64 (s.to_:Nat)) a1;have a3:=row_set (j:=k*3+2) (v:=.int .i64 (s.n:Nat)) a2;refine ⟨_,a3,fun p hp=>?_⟩;have hb:∀ q,q<n->q*3+2<cur.size:=fun q hq=>(Array.getElem?_eq_some_iff.1 (h2 q hq).2.2).1;have hbk:=hb k hk;have e:=h2 p hp;by_cases hpk:p=k
 ·subst hpk;simp only [↓reduceIte];refine ⟨?_,?_,?_⟩
  ·rw [Array.getElem?_setIfInBounds_ne (by omega),Array.getElem?_setIfInBounds_ne (by omega),Array.getElem?_setIfInBounds_self_of_lt (by omega)]
  ·rw [Array.getElem?_setIfInBounds_ne (by omega),Array.getElem?_setIfInBounds_self_of_lt (by simp; omega)]
  ·rw [Array.getElem?_setIfInBounds_self_of_lt (by simp; omega)]
 ·simp only [if_neg hpk];refine ⟨?_,?_,?_⟩
  ·rw [Array.getElem?_setIfInBounds_ne (by omega),Array.getElem?_setIfInBounds_ne (by omega),Array.getElem?_setIfInBounds_ne (by omega)]; exact e.1
  ·rw [Array.getElem?_setIfInBounds_ne (by omega),Array.getElem?_setIfInBounds_ne (by omega),Array.getElem?_setIfInBounds_ne (by omega)]; exact e.2.1
  ·rw [Array.getElem?_setIfInBounds_ne (by omega),Array.getElem?_setIfInBounds_ne (by omega),Array.getElem?_setIfInBounds_ne (by omega)]; exact e.2.2
theorem putStp_grown (W:World) (b k:Nat) (s:Stp):W.grownBy (putStp W b k s) (some b):=grownBy_trans (grownBy_trans (grownBy_setB W b _ _) (grownBy_setB _ b _ _)) (grownBy_setB _ b _ _)
theorem rev_step {w wr:World} {b m k J':Nat} {f:Nat->Stp} {sk sJ:Stp} (hkJ:k+(J'+1)=m) (hlt:k<J'+1) (hsk:sk=revK f (m+1) k k) (hsJ:sJ=revK f (m+1) k (J'+1)) (hS:StepsRow wr b (m+1) (revK f (m+1) k)) (hG:w.grownBy wr (some b)) :
  StepsRow (putStp (putStp wr b k sJ) b (J'+1) sk).drew b (m+1) (revK f (m+1) (k+1))/\w.grownBy (putStp (putStp wr b k sJ) b (J'+1) sk).drew (some b):=by
 refine ⟨?_,grownBy_ext (grownBy_trans (grownBy_trans hG (putStp_grown wr b k sJ)) (putStp_grown _ b (J'+1) sk)) (Ext.drew _)⟩;have h3:StepsRow (putStp (putStp wr b k sJ) b (J'+1) sk) b (m+1) (revK f (m+1) (k+1)):=((hS.put (k:=k) sJ (by omega)).put (k:=J'+1) sk (by omega)).congr (fun p hp=>by
  rw [hsk,hsJ];unfold revK;by_cases e1:p=J'+1
  ·rw [if_pos e1,if_neg (by omega),if_pos (by omega),e1]; congr 1; omega
  ·rw [if_neg e1];by_cases e2:p=k
   ·rw [if_pos e2,if_neg (by omega),if_pos (by omega),e2]; congr 1; omega
   ·rw [if_neg e2];by_cases e3:p<k\/m+1-k<=p
    ·rw [if_pos e3,if_pos (by omega)]
    ·rw [if_neg e3,if_neg (by omega)])
 exact h3.ext (Ext.drew _)
def RevPost (w:World) (b n:Nat) (f:Nat->Stp) (e:Ending) (w':World):Prop:=e=.returned (.tuple #[])/\StepsRow w' b n (fun p=>f (n-1-p))/\w.grownBy w' (some b)
theorem reverseNil73 (a:Option Addr) (cap:Nat) (w:World):Calls Tryz.prog 73 #[.slice a 0 cap] w fun e w'=>e=.returned (.tuple #[])/\w'=w:=by
 go_enter Tryz.func73,Tryz.ntmps73
 go_wp2;refine wp_loop_rounds 1 ?_; rw [rounds_succ];go_wp2
 go_end0
 exact ⟨rfl,rfl⟩
theorem reverse73 (b m cap:Nat) (f:Nat->Stp) (w:World) (hn:m+1<=cap) (hs:m<=1000000) (h:StepsRow w b (m+1) f) :
  Calls Tryz.prog 73 #[.slice (some ⟨b,0,none⟩) (m+1) cap] w (RevPost w b (m+1) f):=by
 have H0:=dh h;clear h
 go_enter Tryz.func73,Tryz.ntmps73
 go_upto_region 1 with (fail);go_loopw [2,3] (fun i j wr=>∃ k J:Nat,k+J=m/\k<=J+1/\i=.int .i64 k/\j=.int .i64 J/\Hid (StepsRow wr b (m+1) (revK f (m+1) k)/\w.grownBy wr (some b))) (fun _ j _=>(intOf j).toNat)
 case atStart=>exact ⟨0,m,by omega,by omega,rfl,by go_num,dh ⟨H0.out.congr fun p hp=>by unfold revK; rw [if_neg (by omega)],grownBy_refl _ _⟩⟩
 case round =>
  obtain ⟨k,J,hkJ,hk,rfl,rfl,hH⟩:=hrel;by_cases hlt:k<J
  ·have hS0:=dh hH.out.1;have hG0:=dh hH.out.2;obtain ⟨cur,h1,h2⟩:=hH.out.1;have hw1:IntKind.i64.wrap ((k:Int)+1)=((k+1:Nat):Int):=by rw [IntKind.wrap_i64]; omega
   obtain ⟨J',rfl⟩:∃ J',J=J'+1:=⟨J-1,by omega⟩;obtain ⟨sk,hsk⟩:∃ sk,sk=revK f (m+1) k k:=⟨_,rfl⟩;obtain ⟨sJ,hsJ⟩:∃ sJ,sJ=revK f (m+1) k (J'+1):=⟨_,rfl⟩;have c0:=row_cell h1 (h2 k (by omega)).1;have c1:=row_cell h1 (h2 k (by omega)).2.1;have c2:=row_cell h1 (h2 k (by omega)).2.2;have d0:=row_cell h1 (h2 (J'+1) (by omega)).1;have d1:=row_cell h1 (h2 (J'+1) (by omega)).2.1;have d2:=row_cell h1 (h2 (J'+1) (by omega)).2.2;have f0:=row_free h1 (k*3);have f1:=row_free h1 (k*3+1);have f2:=row_free h1 (k*3+2);have g0:=row_free h1 ((J'+1)*3);have g1:=row_free h1 ((J'+1)*3+1);have g2:=row_free h1 ((J'+1)*3+2);rw [<- hsk] at c0 c1 c2;rw [<- hsJ] at d0 d1 d2;have i1:(k:Int)<(m:Int)+1:=by omega
   have i2:J'<m:=by omega
   have i3:(0:Int)<=(J':Int)+1:=by omega
   have Hsk:=dh hsk;have HsJ:=dh hsJ;clear hsk hsJ h1 h2 hH;go_upto_region 3 with (fail);have HS:=dh (show Ext wr wr.drew from Ext.drew wr);refine wp_region_L [13,15] (Ext wr) (by kernel_rfl) ?_;change wpL _ _ _ _ _ _ _ _ _ (World.drew _);refine Yp 0 HS.out ?_;refine Yp 1 HS.out ?_;refine Yp 2 HS.out ?_;refine Yp 3 HS.out ?_;refine Yp 4 HS.out ?_;refine Yp 5 HS.out ?_;refine Yp 6 HS.out ?_;refine Yt 7 rfl (fun w9 hE=>by have d0E:=hE.cell d0; have d1E:=hE.cell d1; have d2E:=hE.cell d2; clear hE; first | (go_simp; done) | (go_simp; with_reducible rfl)) HS.out ?_;refine Yp 8 HS.out ?_;refine Yp 9 HS.out ?_;refine Yp 10 HS.out ?_;refine Yt 11 rfl (fun w9 hE=>by have c0E:=hE.cell c0; have c1E:=hE.cell c1; have c2E:=hE.cell c2; clear hE; first | (go_simp; done) | (go_simp; with_reducible rfl)) HS.out ?_;refine Yp 12 HS.out ?_;refine wpL_only (i:=13) rfl (by kernel_rfl) (fun K hK=>?_);go_simp;refine hK _ _ (fun h=>Bool.noConfusion ((show early _ _=false by kernel_rfl).symm.trans h)) ?_; clear hK K;refine wpL_only (i:=14) rfl (by kernel_rfl) (fun K hK=>?_);go_simp;refine hK _ _ (fun h=>Bool.noConfusion ((show early _ _=false by kernel_rfl).symm.trans h)) ?_; clear hK K;refine wpL_only (i:=15) rfl (by kernel_rfl) (fun K hK=>?_);go_simp;refine hK _ _ (fun h=>Bool.noConfusion ((show early _ _=false by kernel_rfl).symm.trans h)) ?_; clear hK K;refine wpL_done (by kernel_rfl) ?_;have HN:=dh (rev_step hkJ hlt Hsk.out HsJ.out hS0.out hG0.out);clear c0 c1 c2 d0 d1 d2 f0 f1 f2 g0 g1 g2 HS;go_wp2_with fail;go_roundw
   case rel=>exact ⟨k+1,J',by omega,by omega,by go_num,by go_num,dh HN.out⟩
   case measure=>simp [intOf]
  ·have hG0:=dh hH.out.2;have hS0:=dh (hH.out.1.congr (g:=fun p=>f (m+1-1-p)) fun p hp=>by
    unfold revK;by_cases h:p<k\/m+1-k<=p
    ·rw [if_pos h]
    ·rw [if_neg h]; congr 1; omega)
   clear hH;go_wp2_with fail
   go_end0
   exact ⟨rfl,hS0.out,hG0.out⟩
end
section
abbrev Disc:=List (Nat × Nat × Stp)
def metB (a:Nat) (D:Disc) (u:Nat):Bool:=u==a||D.any fun d=>d.1==u
def dvis (a x:Nat) (s:Disc × List Nat) (y:Stp):Disc × List Nat:=if metB a s.1 y.to_ then s else (s.1++[(y.to_,x,y)],s.2++[y.to_])
theorem dvis_met {a x:Nat} {D:Disc} {Q:List Nat} {y:Stp} (h:metB a D y.to_=true):dvis a x (D,Q) y=(D,Q):=by unfold dvis; rw [if_pos h]
theorem dvis_new {a x:Nat} {D:Disc} {Q:List Nat} {y:Stp} (h:metB a D y.to_=false):dvis a x (D,Q) y=(D++[(y.to_,x,y)],Q++[y.to_]):=by unfold dvis; rw [if_neg (by rw [h]; decide)]
def dstep (a:Nat) (st:Nat->List Stp) (s:Disc × List Nat):Disc × List Nat:=match s.2 with | []=>s | x :: q=>(st x).foldl (dvis a x) (s.1,q)
def diter (a:Nat) (st:Nat->List Stp):Nat->Disc × List Nat
 | 0=>([],[a])
 | k+1=>dstep a st (diter a st k)
def succS (st:Nat->List Stp) (x:Nat):List Nat:=(st x).map (·.to_)
def discN (a:Nat) (st:Nat->List Stp) (n:Nat):Disc:=(diter a st n).1
def back:Disc->Nat->List Stp
 | [],_=>[]
 | (u,x,s) :: R,t=>if t=u then s :: back R x else back R t
def Chain (st:Nat->List Stp) (a:Nat):List Stp->Nat->Prop
 | [],b=>a=b
 | s :: l,b=>s∈st a/\Chain st s.to_ l b
theorem Chain.snoc {st:Nat->List Stp} {b:Nat} {s:Stp} (hs:s∈st b):∀ {l:List Stp} {a:Nat},Chain st a l b->Chain st a (l++[s]) s.to_
 | [],a,h=>by
  have h:a=b:=h;subst h;exact ⟨hs,rfl⟩
 | _ :: _,a,h=>⟨h.1,Chain.snoc hs h.2⟩
theorem Chain.reach {st:Nat->List Stp} {b:Nat}:∀ {l:List Stp} {a:Nat},Chain st a l b->Reach (succS st) a b
 | [],a,h=>by
  have h:a=b:=h;subst h;exact Reach.refl
 | s :: _,a,h=>Reach.trans (Reach.one (List.mem_map.2 ⟨s,h.1,rfl⟩)) (Chain.reach h.2)
theorem chain_mem {st:Nat->List Stp} {b:Nat}:∀ {l:List Stp} {a:Nat},Chain st a l b->∀ s,s∈l->∃ x,Reach (succS st) a x/\s∈st x
 | [],_,_,s,hs=>by cases hs
 | y :: l,a,h,s,hs=>by
  rcases List.mem_cons.1 hs with rfl | hs
  ·exact ⟨a,Reach.refl,h.1⟩
  ·obtain ⟨x,h1,h2⟩:=chain_mem h.2 s hs;exact ⟨x,Reach.trans (Reach.one (List.mem_map.2 ⟨y,h.1,rfl⟩)) h1,h2⟩
def DSim (a:Nat) (D:Disc) (S:Nat):Prop:=∀ u,S.testBit u=metB a D u
theorem metB_snoc (a:Nat) (D:Disc) (d:Nat × Nat × Stp) (u:Nat):metB a (D++[d]) u=(metB a D u||d.1==u):=by
 unfold metB;simp [List.any_append,Bool.or_assoc]
theorem dvis_sim {a x:Nat} {D:Disc} {S:Nat} {Q:List Nat} (h:DSim a D S) (y:Stp):(visit (S,Q) y.to_).2=(dvis a x (D,Q) y).2/\DSim a (dvis a x (D,Q) y).1 (visit (S,Q) y.to_).1:=by
 unfold visit dvis;rw [show (S,Q).1=S from rfl,show (D,Q).1=D from rfl,h y.to_];cases hm:metB a D y.to_
 ·refine ⟨rfl,fun u=>?_⟩;simp only [Bool.false_eq_true,if_false,Nat.testBit_or,Nat.testBit_two_pow,metB_snoc,h u]
  congr 1
 ·exact ⟨rfl,h⟩
theorem dfold_sim {a x:Nat}:∀ (l:List Stp) {D:Disc} {S:Nat} {Q:List Nat},DSim a D S ->
  ((l.map (·.to_)).foldl visit (S,Q)).2=(l.foldl (dvis a x) (D,Q)).2/\DSim a (l.foldl (dvis a x) (D,Q)).1 ((l.map (·.to_)).foldl visit (S,Q)).1
 | [],_,_,_,h=>⟨rfl,h⟩
 | y :: l,D,S,Q,h=>by
  obtain ⟨h1,h2⟩:=dvis_sim (x:=x) (Q:=Q) h y;obtain ⟨S1,Q1,e⟩:∃ S1 Q1,visit (S,Q) y.to_=(S1,Q1):=⟨_,_,rfl⟩;obtain ⟨D1,Q2,e2⟩:∃ D1 Q2,dvis a x (D,Q) y=(D1,Q2):=⟨_,_,rfl⟩;rw [e,e2] at h1 h2;have h1:Q1=Q2:=h1;subst h1;simp only [List.map_cons,List.foldl_cons,e,e2];exact dfold_sim l h2
theorem diter_sim (a:Nat) (st:Nat->List Stp):∀ k,(biter (succS st) a k).2=(diter a st k).2/\DSim a (diter a st k).1 (biter (succS st) a k).1
 | 0=>⟨rfl,fun u=>by simp only [biter,diter,Nat.testBit_two_pow,metB,List.any_nil,Bool.or_false]; rw [Bool.eq_iff_iff,decide_eq_true_eq,beq_iff_eq]; exact eq_comm⟩
 | k+1=>by
  obtain ⟨h1,h2⟩:=diter_sim a st k;obtain ⟨S,Q,e⟩:∃ S Q,biter (succS st) a k=(S,Q):=⟨_,_,rfl⟩;obtain ⟨D,Q2,e2⟩:∃ D Q2,diter a st k=(D,Q2):=⟨_,_,rfl⟩;rw [e,e2] at h1 h2;have h1:Q=Q2:=h1;subst h1;simp only [biter,diter,e,e2,bstep,dstep];cases Q with
  | nil=>exact ⟨rfl,h2⟩
  | cons x q=>exact dfold_sim (st x) h2
theorem diter_left {n a:Nat} {st:Nat->List Stp} (ha:a<n) (hs:∀ x,x<n->∀ s,s∈st x->s.to_<n) {k:Nat} {D:Disc} {Q:List Nat} (he:diter a st k=(D,Q)) (hQ:Q≠[]):k+Q.length<=n/\∀ x,x∈Q->x<n:=by
 obtain ⟨h1,_⟩:=diter_sim a st k;rw [he] at h1;have hs':∀ x,x<n->∀ u,u∈succS st x->u<n:=fun x hx u hu=>by
  obtain ⟨s,hm,rfl⟩:=List.mem_map.1 hu;exact hs x hx s hm
 exact biter_left (S:=(biter (succS st) a k).1) ha hs' (Prod.ext rfl h1) hQ
theorem diter_all {n a:Nat} {st:Nat->List Stp} (ha:a<n) (hs:∀ x,x<n->∀ s,s∈st x->s.to_<n):(diter a st n).2=[]:=by
 cases hq:(diter a st n).2 with
 | nil=>rfl
 | cons x q =>
  have:=diter_left ha hs (k:=n) (D:=(diter a st n).1) (Q:=x :: q) (by rw [<- hq]) (by simp);simp at this; omega
theorem diter_stays {a:Nat} {st:Nat->List Stp} {D:Disc}:∀ (d k:Nat),diter a st k=(D,[])->diter a st (k+d)=(D,[])
 | 0,_,h=>h
 | d+1,k,h=>by
  have:=diter_stays d k h;show dstep a st (diter a st (k+d))=_
  rw [this]; rfl
theorem diter_done {n a:Nat} {st:Nat->List Stp} (ha:a<n) (hs:∀ x,x<n->∀ s,s∈st x->s.to_<n) {k:Nat} {D:Disc} (he:diter a st k=(D,[])):D=discN a st n:=by
 have h1:=diter_stays n k he;have h2:=diter_stays (D:=discN a st n) k n (by rw [<- diter_all ha hs]; rfl);rw [Nat.add_comm] at h2;rw [h1] at h2;exact congrArg Prod.fst h2
theorem dfold_prefix {a x:Nat}:∀ (l:List Stp) (D:Disc) (Q:List Nat),D <+: (l.foldl (dvis a x) (D,Q)).1
 | [],_,_=>List.prefix_refl _
 | y :: l,D,Q=>by
  rw [List.foldl_cons];unfold dvis;split
  ·exact dfold_prefix l D Q
  ·exact (List.prefix_append _ _).trans (dfold_prefix l _ _)
theorem dfold_prefix2 {a x:Nat} {l l':List Stp} (h:l <+: l') (D:Disc) (Q:List Nat):(l.foldl (dvis a x) (D,Q)).1 <+: (l'.foldl (dvis a x) (D,Q)).1:=by
 obtain ⟨r,rfl⟩:=h;rw [List.foldl_append];exact dfold_prefix r _ _
theorem diter_mono {a:Nat} {st:Nat->List Stp} (k:Nat):∀ d,(diter a st k).1 <+: (diter a st (k+d)).1
 | 0=>List.prefix_refl _
 | d+1=>by
  refine (diter_mono k d).trans ?_;show _ <+: (dstep a st (diter a st (k+d))).1
  obtain ⟨D,Q,e⟩:∃ D Q,diter a st (k+d)=(D,Q):=⟨_,_,rfl⟩;rw [e];cases Q with
  | nil=>exact List.prefix_refl _
  | cons x q=>exact dfold_prefix (st x) D q
theorem dlook_prefix {n a:Nat} {st:Nat->List Stp} (ha:a<n) (hs:∀ x,x<n->∀ s,s∈st x->s.to_<n) {k x:Nat} {D:Disc} {q:List Nat} (he:diter a st k=(D,x :: q)) {l:List Stp} (hl:l <+: st x) :
  (l.foldl (dvis a x) (D,q)).1 <+: discN a st n:=by
 have h1:=diter_left ha hs he (by simp);simp at h1;have h2:=dfold_prefix2 (a:=a) (x:=x) hl D q;have h3:(diter a st (k+1)).1=((st x).foldl (dvis a x) (D,q)).1:=by
  show (dstep a st (diter a st k)).1=_
  rw [he]; rfl
 rw [<- h3] at h2;have h4:=diter_mono (a:=a) (st:=st) (k+1) (n-(k+1));rw [show k+1+(n-(k+1))=n by omega] at h4;exact h2.trans h4
def GoodR (a:Nat) (st:Nat->List Stp):Disc->Prop
 | []=>True
 | (u,x,s) :: R=>u≠a/\(∀ d,d∈R->d.1≠u)/\(x=a\/∃ d,d∈R/\d.1=x)/\s∈st x/\s.to_=u/\GoodR a st R
theorem GoodR.tail {a:Nat} {st:Nat->List Stp}:∀ {E R:Disc},GoodR a st (E++R)->GoodR a st R
 | [],_,h=>h
 | (_,_,_) :: _,_,h=>GoodR.tail h.2.2.2.2.2
theorem back_self {a:Nat} {st:Nat->List Stp}:∀ {R:Disc},GoodR a st R->back R a=[]
 | [],_=>rfl
 | (u,x,s) :: R,h=>by
  unfold back;rw [if_neg (fun e=>h.1 e.symm)];exact back_self h.2.2.2.2.2
theorem back_tail {a:Nat} {st:Nat->List Stp} {R:Disc} {t:Nat} (ht:t=a\/∃ d,d∈R/\d.1=t):∀ {E:Disc},GoodR a st (E++R)->back (E++R) t=back R t
 | [],_=>rfl
 | (u,x,s) :: E,h=>by
  have hne:¬ t=u:=by
   intro e;subst e;rcases ht with ht | ⟨d,hd,he⟩
   ·exact h.1 ht
   ·exact h.2.1 d (List.mem_append_right _ hd) he
  have e0:back ((u,x,s) :: (E++R)) t=back (E++R) t:=by
   conv=>lhs; unfold back
   exact if_neg hne
  exact e0.trans (back_tail ht h.2.2.2.2.2)
theorem back_chain {a:Nat} {st:Nat->List Stp}:∀ {R:Disc} {t:Nat},GoodR a st R->(t=a\/∃ d,d∈R/\d.1=t)->Chain st a (back R t).reverse t
 | [],t,_,ht=>by
  rcases ht with ht | ⟨d,hd,_⟩
  ·exact ht.symm
  ·cases hd
 | (u,x,s) :: R,t,h,ht=>by
  unfold back;by_cases e:t=u
  ·rw [if_pos e,List.reverse_cons];have:=Chain.snoc (h.2.2.2.1) (back_chain h.2.2.2.2.2 h.2.2.1);rw [e,<- h.2.2.2.2.1];exact this
  ·rw [if_neg e];refine back_chain h.2.2.2.2.2 (ht.imp id ?_);rintro ⟨d,hd,he⟩;rcases List.mem_cons.1 hd with rfl | hd
   ·exact absurd he.symm e
   ·exact ⟨d,hd,he⟩
theorem metB_iff (a:Nat) (D:Disc) (u:Nat):metB a D u=true↔(u=a\/∃ d,d∈D/\d.1=u):=by
 unfold metB;simp only [Bool.or_eq_true,beq_iff_eq,List.any_eq_true]
theorem metB_prefix {a:Nat} {D D':Disc} (h:D <+: D') {u:Nat} (hm:metB a D u=true):metB a D' u=true:=by
 rw [metB_iff] at hm ⊢;exact hm.imp id fun ⟨d,hd,e⟩=>⟨d,h.subset hd,e⟩
def dep (D:Disc) (t:Nat):Nat:=(back D.reverse t).length
structure DInv (a:Nat) (st:Nat->List Stp) (D:Disc) (P Q:List Nat):Prop where
 good:GoodR a st D.reverse
 mem:∀ u,metB a D u=true↔u∈P++Q
 srt:(P++Q).Pairwise fun u v=>dep D u<=dep D v
 cls:∀ x,x∈P->∀ s,s∈st x->s.to_∈P++Q/\dep D s.to_<=dep D x+1
theorem good_snoc {a x:Nat} {st:Nat->List Stp} {D:Disc} {y:Stp} (h:GoodR a st D.reverse) (hm:metB a D y.to_=false) (hx:metB a D x=true) (hy:y∈st x):GoodR a st (D++[(y.to_,x,y)]).reverse:=by
 rw [List.reverse_append];refine ⟨fun e=>?_,fun d hd e=>?_,?_,hy,rfl,h⟩
 ·rw [(metB_iff a D _).2 (Or.inl e)] at hm; cases hm
 ·rw [(metB_iff a D _).2 (Or.inr ⟨d,by simpa using hd,e⟩)] at hm; cases hm
 ·rcases (metB_iff a D x).1 hx with e | ⟨d,hd,e⟩
  ·exact Or.inl e
  ·exact Or.inr ⟨d,by simpa using hd,e⟩
theorem dep_old {a x:Nat} {st:Nat->List Stp} {D:Disc} {y:Stp} (h:GoodR a st (D++[(y.to_,x,y)]).reverse) {u:Nat} (hu:metB a D u=true):dep (D++[(y.to_,x,y)]) u=dep D u:=by
 unfold dep;rw [List.reverse_append] at h ⊢;rw [back_tail (E:=[(y.to_,x,y)].reverse) (st:=st) (a:=a) _ h];rcases (metB_iff a D u).1 hu with e | ⟨d,hd,e⟩
 ·exact Or.inl e
 ·exact Or.inr ⟨d,by simpa using hd,e⟩
theorem dep_new (x:Nat) (D:Disc) (y:Stp):dep (D++[(y.to_,x,y)]) y.to_=dep D x+1:=by
 unfold dep;rw [List.reverse_append];simp [back]
theorem dvis_inv {a x:Nat} {st:Nat->List Stp} {D:Disc} {P Q:List Nat} {y:Stp} (h:DInv a st D P Q) (hx:x∈P++Q) (hy:y∈st x) (hmax:∀ u,u∈P++Q->dep D u<=dep D x+1) :
  DInv a st (dvis a x (D,Q) y).1 P (dvis a x (D,Q) y).2/\(∀ u,u∈P++Q->u∈P++(dvis a x (D,Q) y).2/\dep (dvis a x (D,Q) y).1 u=dep D u) /\
   (∀ u,u∈P++(dvis a x (D,Q) y).2->dep (dvis a x (D,Q) y).1 u<=dep (dvis a x (D,Q) y).1 x+1)/\y.to_∈P++(dvis a x (D,Q) y).2:=by
 unfold dvis;rw [show (D,Q).1=D from rfl,show (D,Q).2=Q from rfl];cases hm:metB a D y.to_
 ·simp only [Bool.false_eq_true,if_false];have hg:=good_snoc h.good hm ((h.mem x).2 hx) hy;have hold:∀ u,u∈P++Q->dep (D++[(y.to_,x,y)]) u=dep D u:=fun u hu=>dep_old hg ((h.mem u).2 hu);have hnew:=dep_new x D y;refine ⟨⟨hg,fun u=>?_,?_,fun z hz s hs=>?_⟩,fun u hu=>⟨?_,hold u hu⟩,fun u hu=>?_,?_⟩
  ·rw [metB_snoc,Bool.or_eq_true,h.mem u,<- List.append_assoc,List.mem_append (t:=[y.to_]),List.mem_singleton];simp only [beq_iff_eq];exact ⟨fun e=>e.imp id Eq.symm,fun e=>e.imp id Eq.symm⟩
  ·rw [<- List.append_assoc,List.pairwise_append];refine ⟨h.srt.imp_of_mem (fun {u v} hu hv huv=>by rw [hold u hu,hold v hv]; exact huv),by simp,fun u hu v hv=>?_⟩;rw [List.mem_singleton] at hv;rw [hv,hnew,hold u hu];exact hmax u hu
  ·have:=h.cls z hz s hs;rw [hold z (List.mem_append_left _ hz),hold _ this.1];exact ⟨by rw [<- List.append_assoc]; exact List.mem_append_left _ this.1,this.2⟩
  ·rw [<- List.append_assoc]; exact List.mem_append_left _ hu
  ·rw [<- List.append_assoc] at hu;rw [hold x hx];rcases List.mem_append.1 hu with hu | hu
   ·rw [hold u hu]; exact hmax u hu
   ·rw [List.mem_singleton] at hu;rw [hu,hnew]; exact Nat.le_refl _
  ·simp
 ·exact ⟨h,fun u hu=>⟨hu,rfl⟩,hmax,(h.mem _).1 hm⟩
theorem dfold_inv {a x:Nat} {st:Nat->List Stp} {P:List Nat}:∀ (l:List Stp) {D:Disc} {Q:List Nat},DInv a st D P Q->x∈P++Q->(∀ y,y∈l->y∈st x)->(∀ u,u∈P++Q->dep D u<=dep D x+1) ->
  DInv a st (l.foldl (dvis a x) (D,Q)).1 P (l.foldl (dvis a x) (D,Q)).2/\(∀ u,u∈P++Q->u∈P++(l.foldl (dvis a x) (D,Q)).2/\dep (l.foldl (dvis a x) (D,Q)).1 u=dep D u) /\
   (∀ u,u∈P++(l.foldl (dvis a x) (D,Q)).2->dep (l.foldl (dvis a x) (D,Q)).1 u<=dep (l.foldl (dvis a x) (D,Q)).1 x+1)/\∀ y,y∈l->y.to_∈P++(l.foldl (dvis a x) (D,Q)).2
 | [],D,Q,h,_,_,hmax=>⟨h,fun u hu=>⟨hu,rfl⟩,hmax,fun y hy=>by cases hy⟩
 | y :: l,D,Q,h,hx,hl,hmax=>by
  obtain ⟨h1,h2,h3,h4⟩:=dvis_inv h hx (hl y (List.mem_cons_self ..)) hmax;obtain ⟨D1,Q1,e⟩:∃ D1 Q1,dvis a x (D,Q) y=(D1,Q1):=⟨_,_,rfl⟩;rw [e] at h1 h2 h3 h4;simp only [List.foldl_cons,e];obtain ⟨k1,k2,k3,k4⟩:=dfold_inv l h1 (h2 x hx).1 (fun z hz=>hl z (List.mem_cons_of_mem _ hz)) h3;refine ⟨k1,fun u hu=>⟨(k2 u (h2 u hu).1).1,(k2 u (h2 u hu).1).2.trans (h2 u hu).2⟩,k3,fun z hz=>?_⟩;rcases List.mem_cons.1 hz with rfl | hz
  ·exact (k2 _ h4).1
  ·exact k4 z hz
theorem diter_inv (a:Nat) (st:Nat->List Stp):∀ k,∃ P,DInv a st (diter a st k).1 P (diter a st k).2/\∀ q Q,(diter a st k).2=q :: Q->∀ u,u∈P++(diter a st k).2->dep (diter a st k).1 u<=dep (diter a st k).1 q+1
 | 0=>by
  refine ⟨[],⟨trivial,fun u=>by simp [diter,metB],by simp [diter],fun x hx=>by cases hx⟩,fun q Q _ u _=>?_⟩;simp [dep,diter,back]
 | k+1=>by
  obtain ⟨P,h,hg⟩:=diter_inv a st k;obtain ⟨D,Q,e⟩:∃ D Q,diter a st k=(D,Q):=⟨_,_,rfl⟩;rw [e] at h hg;have e1:diter a st (k+1)=dstep a st (D,Q):=by rw [<- e]; rfl
  rw [e1];cases Q with
  | nil=>exact ⟨P,h,fun q Q hq=>by cases hq⟩
  | cons x q =>
   have hx:x∈P++x :: q:=by simp
   have h':DInv a st D (P++[x]++q) []->True:=fun _=>trivial;have hge:∀ u,u∈P++[x]++q->u∈P++x :: q:=fun u hu=>by simpa [List.append_assoc] using hu
   have hge':∀ u,u∈P++x :: q->u∈P++[x]++q:=fun u hu=>by simpa [List.append_assoc] using hu
   have key:∀ (l:List Stp),(∀ y,y∈l->y∈st x)->∃ R,(l.foldl (dvis a x) (D,q)).2=q++R/\(l.foldl (dvis a x) (D,x :: q)).2=x :: (q++R)/\(l.foldl (dvis a x) (D,q)).1=(l.foldl (dvis a x) (D,x :: q)).1:=by
    intro l;have gen:∀ (l:List Stp) (D:Disc) (q:List Nat),∃ R,(l.foldl (dvis a x) (D,q)).2=q++R/\(l.foldl (dvis a x) (D,x :: q)).2=x :: (q++R)/\(l.foldl (dvis a x) (D,q)).1=(l.foldl (dvis a x) (D,x :: q)).1:=by
     intro l
     induction l with
     | nil=>intro D q; exact ⟨[],by simp,by simp,rfl⟩
     | cons y l ih =>
      intro D q;simp only [List.foldl_cons];cases hm:metB a D y.to_
      ·rw [dvis_new hm,dvis_new hm];obtain ⟨R,r1,r2,r3⟩:=ih (D++[(y.to_,x,y)]) (q++[y.to_]);refine ⟨y.to_ :: R,?_,?_,?_⟩
       ·simpa [List.append_assoc] using r1
       ·simpa [List.append_assoc] using r2
       ·simpa using r3
      ·rw [dvis_met hm,dvis_met hm];exact ih D q
    exact fun _=>gen l D q
   obtain ⟨R,r1,r2,r3⟩:=key (st x) (fun y hy=>hy);obtain ⟨k1,k2,k3,k4⟩:=dfold_inv (st x) h hx (fun y hy=>hy) (hg x q rfl);rw [r2,<- r3] at k1 k3;rw [r2] at k4;have k2':∀ u,u∈P++x :: q->dep ((st x).foldl (dvis a x) (D,q)).1 u=dep D u:=fun u hu=>by rw [r3]; exact (k2 u hu).2
   have e2:(dstep a st (D,x :: q))=(st x).foldl (dvis a x) (D,q):=rfl;rw [e2];obtain ⟨D1,Q1,e3⟩:∃ D1 Q1,(st x).foldl (dvis a x) (D,q)=(D1,Q1):=⟨_,_,rfl⟩;rw [e3] at r1 k1 k3 k2' ⊢;have r1:Q1=q++R:=r1;subst r1;have hP:P++x :: (q++R)=P++[x]++(q++R):=by simp [List.append_assoc]
   refine ⟨P++[x],⟨k1.good,fun u=>by rw [<- hP]; exact k1.mem u,by rw [<- hP]; exact k1.srt,fun z hz s hs=>?_⟩,fun v Q hv u hu=>?_⟩
   ·rw [<- hP];rcases List.mem_append.1 hz with hz | hz
    ·exact k1.cls z hz s hs
    ·rw [List.mem_singleton] at hz;subst hz;exact ⟨k4 s hs,k3 _ (k4 s hs)⟩
   ·rw [<- hP] at hu;have h1:=k3 u hu;have hv:(q++R)=v :: Q:=hv;have h2:=k1.srt;rw [hv] at h2;have h3:=(List.pairwise_append.1 h2).2.1;have h4:dep D1 x<=dep D1 v:=(List.pairwise_cons.1 h3).1 v (List.mem_cons_self ..);show dep D1 u<=dep D1 v+1
    have h1:dep D1 u<=dep D1 x+1:=h1;omega
structure DDone (a:Nat) (st:Nat->List Stp) (D:Disc):Prop where
 good:GoodR a st D.reverse
 all:∀ u,metB a D u=true↔Reach (succS st) a u
 far:∀ l b,Chain st a l b->dep D b<=l.length
theorem discN_done {n a:Nat} {st:Nat->List Stp} (ha:a<n) (hs:∀ x,x<n->∀ s,s∈st x->s.to_<n):DDone a st (discN a st n):=by
 obtain ⟨P,h,_⟩:=diter_inv a st n;rw [diter_all ha hs,show (diter a st n).1=discN a st n from rfl] at h;have hmem:=h.mem;have hcls:=h.cls;simp only [List.append_nil] at hmem hcls;have haP:a∈P:=(hmem a).1 ((metB_iff _ _ _).2 (Or.inl rfl));have h0:dep (discN a st n) a=0:=by unfold dep; rw [back_self h.good]; rfl
 have hch:∀ (l:List Stp) (x b:Nat),x∈P->Chain st x l b->b∈P/\dep (discN a st n) b<=dep (discN a st n) x+l.length:=by
  intro l
  induction l with
  | nil=>intro x b hx e; have e:x=b:=e; subst e; exact ⟨hx,by simp⟩
  | cons s l ih =>
   intro x b hx hc;have h1:=hcls x hx s hc.1;have h2:=ih s.to_ b h1.1 hc.2;refine ⟨h2.1,?_⟩;have:dep (discN a st n) s.to_<=dep (discN a st n) x+1:=h1.2;simp only [List.length_cons]; omega
 refine ⟨h.good,fun u=>⟨fun hm=>?_,fun hr=>?_⟩,fun l b hc=>?_⟩
 ·exact (back_chain h.good (by rcases (metB_iff _ _ _).1 hm with e | ⟨d,hd,e⟩; exact Or.inl e; exact Or.inr ⟨d,by simpa using hd,e⟩)).reach
 ·have key:∀ v,Reach (succS st) a v->v∈P:=fun v hv=>by
   induction hv with
   | refl=>exact haP
   | step _ hc ih =>
    obtain ⟨s,hs',rfl⟩:=List.mem_map.1 hc;exact (hcls _ ih s hs').1
  exact (hmem u).2 (key u hr)
 ·have:=(hch l a b haP hc).2;omega
def deriveL (a:Nat) (st:Nat->List Stp) (n b:Nat):List Stp:=(back (discN a st n).reverse b).reverse
def deriveB (a:Nat) (st:Nat->List Stp) (n b:Nat):Bool:=metB a (discN a st n) b
theorem good_entry {a:Nat} {st:Nat->List Stp}:∀ {R:Disc},GoodR a st R->∀ d,d∈R->back R d.1=d.2.2 :: back R d.2.1/\(d.2.1=a\/∃ e,e∈R/\e.1=d.2.1)
 | [],_,d,hd=>by cases hd
 | (u,x,s) :: R,h,d,hd=>by
  rcases List.mem_cons.1 hd with rfl | hd
  ·have e1:=back_tail (E:=[(u,x,s)]) (R:=R) (t:=x) (st:=st) h.2.2.1 h;refine ⟨?_,h.2.2.1.imp id fun ⟨d,hd,e⟩=>⟨d,List.mem_cons_of_mem _ hd,e⟩⟩;show back ((u,x,s) :: R) u=s :: back ([(u,x,s)]++R) x
   rw [e1]
   conv=>lhs; unfold back
   exact if_pos rfl
  ·obtain ⟨h1,h2⟩:=good_entry h.2.2.2.2.2 d hd;have e1:=back_tail (E:=[(u,x,s)]) (R:=R) (t:=d.1) (st:=st) (Or.inr ⟨d,hd,rfl⟩) h;have e2:=back_tail (E:=[(u,x,s)]) (R:=R) (t:=d.2.1) (st:=st) h2 h;refine ⟨?_,h2.imp id fun ⟨d,hd,e⟩=>⟨d,List.mem_cons_of_mem _ hd,e⟩⟩;show back ([(u,x,s)]++R) d.1=d.2.2 :: back ([(u,x,s)]++R) d.2.1
   rw [e1,e2,h1]
theorem back_none:∀ {R:Disc} {t:Nat},(∀ d,d∈R->d.1≠t)->back R t=[]
 | [],_,_=>rfl
 | (u,x,s) :: R,t,h=>by
  have e0:back ((u,x,s) :: R) t=back R t:=by
   conv=>lhs; unfold back
   exact if_neg fun e=>h (u,x,s) (List.mem_cons_self ..) e.symm
  rw [e0];exact back_none fun d hd=>h d (List.mem_cons_of_mem _ hd)
theorem back_len:∀ (R:Disc) (t:Nat),(back R t).length<=R.length
 | [],_=>Nat.le_refl _
 | (u,x,s) :: R,t=>by
  unfold back;split
  ·have:=back_len R x;simp only [List.length_cons]; omega
  ·have:=back_len R t;simp only [List.length_cons]; omega
theorem good_nodup {a:Nat} {st:Nat->List Stp}:∀ {R:Disc},GoodR a st R->(R.map (·.1)).Nodup
 | [],_=>List.nodup_nil
 | (u,x,s) :: R,h=>by
  rw [List.map_cons,List.nodup_cons];refine ⟨fun hm=>?_,good_nodup h.2.2.2.2.2⟩;obtain ⟨d,hd,e⟩:=List.mem_map.1 hm;exact h.2.1 d hd e
theorem reach_lt {n a:Nat} {succ:Nat->List Nat} (ha:a<n) (hs:∀ x,x<n->∀ u,u∈succ x->u<n) {u:Nat} (h:Reach succ a u):u<n:=by
 induction h with
 | refl=>exact ha
 | step _ hc ih=>exact hs _ ih _ hc
theorem disc_len {n a:Nat} {st:Nat->List Stp} (ha:a<n) (hs:∀ x,x<n->∀ s,s∈st x->s.to_<n):(discN a st n).length<=n:=by
 have hD:=discN_done ha hs;have h1:=good_nodup hD.good;have h2:=nodup_le (n:=n) h1 (fun x hx=>by
  obtain ⟨d,hd,rfl⟩:=List.mem_map.1 hx;refine reach_lt (succ:=succS st) ha (fun x hx u hu=>?_) ((hD.all d.1).1 ((metB_iff _ _ _).2 (Or.inr ⟨d,by simpa using hd,rfl⟩)));obtain ⟨s,hm,rfl⟩:=List.mem_map.1 hu;exact hs x hx s hm)
 simpa using h2
theorem derive_eq {n a b:Nat} {st:Nat->List Stp} (ha:a<n) (hs:∀ x,x<n->∀ s,s∈st x->s.to_<n) {D:Disc} (hp:D <+: discN a st n) (hm:metB a D b=deriveB a st n b) :
  GoodR a st D.reverse/\(back D.reverse b).reverse=deriveL a st n b/\D.length<=n:=by
 have hD:=(discN_done ha hs).good;obtain ⟨E,hE⟩:=hp;have hl:=disc_len ha hs;unfold deriveL;unfold deriveB at hm;rw [<- hE] at hD hm hl ⊢;rw [List.reverse_append] at hD ⊢;refine ⟨hD.tail,?_,by rw [List.length_append] at hl; omega⟩;cases hb:metB a D b
 ·rw [hb] at hm;have n1:∀ d,d∈D.reverse->d.1≠b:=fun d hd e=>by
   rw [(metB_iff a D b).2 (Or.inr ⟨d,by simpa using hd,e⟩)] at hb; cases hb
  have n2:∀ d,d∈E.reverse++D.reverse->d.1≠b:=fun d hd e=>by
   rw [(metB_iff a (D++E) b).2 (Or.inr ⟨d,by rw [<- List.reverse_append,List.mem_reverse] at hd; exact hd,e⟩)] at hm; cases hm
  rw [back_none n1,back_none n2]
 ·rw [back_tail (R:=D.reverse) (st:=st) (a:=a) _ hD];rcases (metB_iff a D b).1 hb with e | ⟨d,hd,e⟩
  ·exact Or.inl e
  ·exact Or.inr ⟨d,by simpa using hd,e⟩
end
end Go.Proofs.YtjffkeoajkhbmaaGreat
