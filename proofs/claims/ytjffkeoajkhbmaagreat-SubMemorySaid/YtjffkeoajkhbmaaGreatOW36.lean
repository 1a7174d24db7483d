/- The reference's one: does some step lead from a type to another one? The reference's Right, of any step. A search that counts steps, over rows of numbers (-1: not met); in plain Lean. What lies in memory while the reference opens an environment. -/
import Derived.Test.YtjffkeoajkhbmaaGreatOW18
import Derived.Test.YtjffkeoajkhbmaaGreatOW21
import Derived.Test.YtjffkeoajkhbmaaGreatOW35
namespace Go.Proofs.YtjffkeoajkhbmaaGreat
set_option linter.unusedSimpArgs false
set_option linter.unusedVariables false
set_option maxRecDepth 100000
set_option maxHeartbeats 8000000
section
open Go.RowKit Go.Proofs
instance (g:List Ty) (C:Nat->Nat) (rs:List Reveal) (x:Nat) (s:Stp):Decidable (StepOk g C rs x s):=by unfold StepOk; exact inferInstance
section
variable {g:List Ty} {C:Nat->Nat} {rs:List Reveal} {a z:Nat}
theorem ok_1 (ht:z<g.length):decide (StepOk g C rs a ⟨1,z,0⟩)=((C a:Int)==(C z:Int)):=by
 rw [Bool.eq_iff_iff,decide_eq_true_iff,beq_iff_eq];unfold StepOk;simp [ht];omega
theorem ok_2 (ht:z<g.length):decide (StepOk g C rs a ⟨2,z,0⟩)=((nth g a).kind==3&&widerB (nth g a) (nth g z)):=by
 rw [Bool.eq_iff_iff,decide_eq_true_iff,Bool.and_eq_true,beq_iff_eq];unfold StepOk;simp [ht]
theorem ok_3 (ht:z<g.length):decide (StepOk g C rs a ⟨3,z,0⟩)=((nth g a).kind==5&&!isWordB (nth g z).kind):=by
 rw [Bool.eq_iff_iff,decide_eq_true_iff,Bool.and_eq_true,beq_iff_eq];unfold StepOk;simp [ht]
theorem ok_4 (ht:z<g.length) (h0:hasSuperB (nth g a).kind=true->0<=(nth g a).super):decide (StepOk g C rs a ⟨4,z,0⟩)=(hasSuperB (nth g a).kind&&(nth g a).super==(z:Int)):=by
 rw [Bool.eq_iff_iff,decide_eq_true_iff,Bool.and_eq_true,beq_iff_eq];unfold StepOk;simp only [ht];constructor
 ·intro h;have h:hasSuperB (nth g a).kind=true/\z=(nth g a).super.toNat:=by simpa using h
  have:=h0 h.1;exact ⟨h.1,by omega⟩
 ·rintro ⟨h1,h2⟩;have:hasSuperB (nth g a).kind=true/\z=(nth g a).super.toNat:=⟨h1,by omega⟩
  simpa using this
theorem ok_5 (ht:z<g.length) (hr:∀ k,k<rs.length->0<=(nth rs k).type) (n:Nat):decide (StepOk g C rs a ⟨5,z,n⟩)=((nth g a).kind==13&&hasI rs.length (n:Int)&&(nth rs (n:Int).toNat).name==(nth g a).opq&&(nth rs (n:Int).toNat).type==(z:Int)):=by
 rw [Bool.eq_iff_iff,decide_eq_true_iff];simp only [Bool.and_eq_true,beq_iff_eq,Int.toNat_natCast,hasI_iff];unfold StepOk;constructor
 ·intro h;have h:n<rs.length/\(nth g a).kind=13/\(nth rs n).name=(nth g a).opq/\z=(nth rs n).type.toNat:=by simpa using h
  have:=hr n h.1;exact ⟨⟨⟨h.2.1,by omega,by omega⟩,h.2.2.1⟩,by omega⟩
 ·rintro ⟨⟨⟨h1,_,h2⟩,h3⟩,h4⟩;have:n<rs.length/\(nth g a).kind=13/\(nth rs n).name=(nth g a).opq/\z=(nth rs n).type.toNat:=⟨by omega,h1,h3,by omega⟩
  simpa using this
theorem ok_6 (ht:z<g.length) (n:Nat):decide (StepOk g C rs a ⟨6,z,n⟩)=((nth g z).kind==13&&hasI rs.length (n:Int)&&(nth rs (n:Int).toNat).full&&(nth rs (n:Int).toNat).name==(nth g z).opq&&(nth rs (n:Int).toNat).type==(a:Int)):=by
 rw [Bool.eq_iff_iff,decide_eq_true_iff];simp only [Bool.and_eq_true,beq_iff_eq,Int.toNat_natCast,hasI_iff];unfold StepOk;constructor
 ·intro h;have h:n<rs.length/\z<g.length/\(nth rs n).full=true/\(nth rs n).type=(a:Int)/\(nth g z).kind=13/\(nth g z).opq=(nth rs n).name:=by simpa using h
  exact ⟨⟨⟨⟨h.2.2.2.2.1,by omega,by omega⟩,h.2.2.1⟩,h.2.2.2.2.2.symm⟩,h.2.2.2.1⟩
 ·rintro ⟨⟨⟨⟨h1,_,h2⟩,h3⟩,h4⟩,h5⟩;have:n<rs.length/\z<g.length/\(nth rs n).full=true/\(nth rs n).type=(a:Int)/\(nth g z).kind=13/\(nth g z).opq=(nth rs n).name:=⟨by omega,ht,h3,h5,h1,h4.symm⟩
  simpa using this
theorem ok_7 (ht:z<g.length):decide (StepOk g C rs a ⟨7,z,0⟩)=anyP (anyTo (nth g a).kind) (nth g z).kind:=by
 rw [Bool.eq_iff_iff,decide_eq_true_iff];unfold StepOk;simp [ht]
theorem right_w (vb:Nat) (w:World) (hv:EnvR w vb g rs C) (ha:a<g.length) (ht:z<g.length) (h0:hasSuperB (nth g a).kind=true->0<=(nth g a).super) (hr:∀ k,k<rs.length->0<=(nth rs k).type) (r n:Nat) (h1:1<=r/\r<=7) (hn:r=5\/r=6\/n=0) :
  Calls Tryz.prog 72 #[.pointer (some ⟨vb,0,none⟩),.int .i64 a,.agg #[.int .u8 r,.int .i64 z,.int .i64 n]] w fun e w'=>e=.returned (.bool (decide (StepOk g C rs a ⟨r,z,n⟩)))/\Ext w w':=by
 rcases (show r=1\/r=2\/r=3\/r=4\/r=5\/r=6\/r=7 by omega) with rfl | rfl | rfl | rfl | rfl | rfl | rfl
 ·obtain rfl:n=0:=by omega
  rw [ok_1 ht]; exact right_1 vb g rs C w hv a z ha ht
 ·obtain rfl:n=0:=by omega
  rw [ok_2 ht]; exact right_2 vb g rs C w hv a z ha ht
 ·obtain rfl:n=0:=by omega
  rw [ok_3 ht]; exact right_3 vb g rs C w hv a z ha ht
 ·obtain rfl:n=0:=by omega
  rw [ok_4 ht h0]; exact right_4 vb g rs C w hv a z ha ht
 ·rw [ok_5 ht hr]; exact right_5 vb g rs C w hv a z ha ht n
 ·rw [ok_6 ht]; exact right_6 vb g rs C w hv a z ha ht n
 ·obtain rfl:n=0:=by omega
  rw [ok_7 ht]; exact right_7 vb g rs C w hv a z ha ht
theorem ok_rule {s:Stp} (h:StepOk g C rs a s):1<=s.rule/\s.rule<=7/\((s.rule=5\/s.rule=6)/\s.n<rs.length\/¬ (s.rule=5\/s.rule=6)/\s.n=0):=by
 unfold StepOk at h;omega
end
theorem one58 (vb:Nat) (g:List Ty) (rs:List Reveal) (C:Nat->Nat) (w:World) (hv:EnvR w vb g rs C) (h60:rs.length<=60) (a z:Nat) (ha:a<g.length) (ht:z<g.length) (h0:hasSuperB (nth g a).kind=true->0<=(nth g a).super) (hr:∀ k,k<rs.length->0<=(nth rs k).type) :
  Calls Tryz.prog 58 #[.pointer (some ⟨vb,0,none⟩),.int .i64 a,.int .i64 z] w fun e w'=>∃ res:Bool,e=.returned (.bool res)/\(res=true↔z∈succF g C rs a)/\Ext w w':=by
 have Hv:=dh hv;have H0:=dh h0;have Hr:=dh hr;have Hyes:=dh (show ∀ r n,StepOk g C rs a ⟨r,z,n⟩->z∈succF g C rs a from fun r n h=>List.mem_map.2 ⟨⟨r,z,n⟩,mem_steps.2 h,rfl⟩);have Hno:=dh (show (∀ r,r<8->∀ n,¬ StepOk g C rs a ⟨r,z,n⟩)->z∉succF g C rs a from fun h hm=>by
  obtain ⟨s,hs,he⟩:=List.mem_map.1 hm;have hs:=mem_steps.1 hs;have:=ok_rule hs;obtain ⟨r,t,n⟩:=s;simp only at he this;subst he;exact h r (by omega) n hs)
 clear hv h0 hr
 go_enter Tryz.func58,Tryz.ntmps58
 go_upto_region 2 with (fail);go_loopw [7,8,9] (fun rv _ _ wr=>∃ r:Nat,1<=r/\r<=8/\rv=.int .u8 r/\Hid (Ext w wr/\∀ q,q<r->∀ n,¬ StepOk g C rs a ⟨q,z,n⟩)) (fun rv _ _ _=>8-(intOf rv).toNat)
 case atStart=>exact ⟨1,by decide,by decide,rfl,dh ⟨Ext.refl _,fun q hq n h=>by have:=(ok_rule h).1; simp only at this; omega⟩⟩
 case round =>
  obtain ⟨r,h1,h8,rfl,hH⟩:=hrel;have HE:=dh hH.out.1;have Hall:=dh hH.out.2;clear hH;by_cases h7:r<=7
  ·obtain ⟨ga,gc,ra,rc,ca,cc,v0,v1,v2,_,_,_⟩:=Hv.out.mono HE.out;have hi7:(r:Int)<=7:=by omega
   have hwr:IntKind.u8.wrap ((r:Int)+1)=(r:Int)+1:=by rw [IntKind.wrap_u8]; omega
   have hms:8-(r+1)<8-r:=by omega
   obtain ⟨most,hmo⟩:∃ most:Nat,most=if r=5\/r=6 then rs.length else 1:=⟨_,rfl⟩
   have Hmo:=dh hmo;have Hnext:=dh (show (∀ n,n<most->¬ StepOk g C rs a ⟨r,z,n⟩)->∀ q,q<r+1->∀ n,¬ StepOk g C rs a ⟨q,z,n⟩ from fun h q hq n hs=>by
    by_cases e:q=r
    ·subst e;refine h n ?_ hs;have:=(ok_rule hs).2.2;simp only at this;rw [hmo];split <;> omega
    ·exact Hall.out q (by omega) n hs)
   clear hmo;go_upto_region 5 with (fail);go_cut [19] from 20 (fun v wx=>∃ bb:Bool,v=.bool bb/\Hid (bb=decide (r=5\/r=6))/\wx=wr)
   case first =>
    cases e5:((r:Int)==5)
    ·have n5:r≠5:=by rw [beq_eq_false_iff_ne] at e5; omega
     cases e6:((r:Int)==6)
     ·have n6:r≠6:=by rw [beq_eq_false_iff_ne] at e6; omega
      have hf:=dh (show false=decide (r=5\/r=6) from (decide_eq_false (by omega)).symm);clear n5 n6;go_wp2_with fail;go_meet;exact ⟨false,rfl,hf,rfl⟩
     ·have n6:r=6:=by rw [beq_iff_eq] at e6; omega
      have hf:=dh (show true=decide (r=5\/r=6) from (decide_eq_true (Or.inr n6)).symm);clear n5 n6;go_wp2_with fail;go_meet;exact ⟨true,rfl,hf,rfl⟩
    ·have n5:r=5:=by rw [beq_iff_eq] at e5; omega
     have hf:=dh (show true=decide (r=5\/r=6) from (decide_eq_true (Or.inl n5)).symm);clear n5;go_wp2_with fail;go_meet;exact ⟨true,rfl,hf,rfl⟩
   case rest =>
    obtain ⟨bb,rfl,Hbb,rfl⟩:=hcut;rename World=>wr;go_upto_if 19 with (fail);go_cut [8] from 20 (fun v wx=>v=.int .i64 most/\wx=wr)
    case first =>
     cases bb
     ·have Hm:=dh (show most=1 by rw [Hmo.out,if_neg (of_decide_eq_false Hbb.out.symm)]);go_wp2_with fail;go_meet;exact ⟨by rw [Hm.out]; rfl,rfl⟩
     ·have Hm:=dh (show most=rs.length by rw [Hmo.out,if_pos (of_decide_eq_true Hbb.out.symm)]);go_wp2_with fail;go_meet;exact ⟨by rw [Hm.out],rfl⟩
    case rest =>
     obtain ⟨rfl,rfl⟩:=hcut;rename World=>wr;clear v0 v1 v2;have hm60:most<=60:=by have:=Hmo.out; split at this <;> omega
     go_upto_region 8 with (fail);go_loopw [9] (fun nv wx=>∃ n:Nat,n<=most/\nv=.int .i64 n/\Hid (Ext w wx/\∀ m,m<n->¬ StepOk g C rs a ⟨r,z,m⟩)) (fun nv _=>most-(intOf nv).toNat)
     case atStart=>exact ⟨0,Nat.zero_le _,rfl,dh ⟨HE.out,fun m hm=>absurd hm (Nat.not_lt_zero _)⟩⟩
     case round =>
      clear HE;obtain ⟨n,hn,rfl,hJ⟩:=hrel;by_cases hnl:n<most
      ·have hrn:r=5\/r=6\/n=0:=by
        have:=Hmo.out;split at this <;> omega
       have Hrn:=dh hrn;clear hrn;go_wp2_with fail;refine (right_w vb _ (Hv.out.mono hJ.out.1) ha ht H0.out Hr.out r n ⟨h1,h7⟩ Hrn.out).mono ?_;rintro e w2 ⟨rfl,hE⟩;have HE2:=dh (hJ.out.1.trans hE);clear hE;by_cases hok:StepOk g C rs a ⟨r,z,n⟩
       ·have Hf:=dh (Hyes.out r n hok);rw [decide_eq_true hok];clear hok;go_wp2_with fail;go_ret;exact ⟨true,rfl,⟨fun _=>Hf.out,fun _=>rfl⟩,HE2.out⟩
       ·have HJ2:=dh (show ∀ m,m<n+1->¬ StepOk g C rs a ⟨r,z,m⟩ from fun m hm=>by
         by_cases e:m=n
         ·subst e; exact hok
         ·exact hJ.out.2 m (by omega))
        rw [decide_eq_false hok];clear hok;go_wp2_with fail;go_roundw
        case rel=>exact ⟨n+1,by omega,by go_num,dh ⟨HE2.out,HJ2.out⟩⟩
        case measure=>simp [intOf]; omega
      ·have HJ2:=dh (Hnext.out (fun m hm=>hJ.out.2 m (by omega)));go_wp2_with fail;go_roundw
       case rel=>exact ⟨r+1,by omega,by omega,by go_num,dh ⟨hJ.out.1,HJ2.out⟩⟩
       case measure=>simp [intOf]; omega
  ·have hr8:r=8:=by omega
   subst hr8;have Hf:=dh (Hno.out Hall.out);go_wp2_with fail;go_ret;exact ⟨false,rfl,⟨fun h=>(by cases h),fun h=>absurd h Hf.out⟩,HE.out⟩
end
section
open Go.RowKit Go.Proofs
theorem right_out (vb:Nat) (g:List Ty) (rs:List Reveal) (C:Nat->Nat) (w:World) (hv:EnvR w vb g rs C) (h400:g.length<=400) (a:Nat) (r t N:Int) (h:t<0\/g.length<=t\/r≠5/\r≠6/\N≠0) :
  Calls Tryz.prog 72 #[.pointer (some ⟨vb,0,none⟩),.int .i64 a,.agg #[.int .u8 r,.int .i64 t,.int .i64 N]] w fun e w'=>e=.returned (.bool false)/\Ext w w':=by
 obtain ⟨ga,gc,ra,rc,ca,cc,v0,v1,v2,hg,hre,hC⟩:=hv;have hE1:=Ext.alloc w (.cells #[.int .u8 r,.int .i64 t,.int .i64 N] 93);have hbx:(w.alloc (.cells #[.int .u8 r,.int .i64 t,.int .i64 N] 93)).heap[w.heap.size]? = some (.cells #[.int .u8 r,.int .i64 t,.int .i64 N] 93 (0,0)):=heap_alloc_new _ _;clear v1 v2 hg hre hC
 go_enter Tryz.func72,Tryz.ntmps72
 go_upto_region 1 with (fail);obtain ⟨W1,hW1⟩:∃ W1:World,W1=w.alloc (.cells #[.int .u8 r,.int .i64 t,.int .i64 N] 93):=⟨_,rfl⟩;rw [<- hW1] at hbx hE1 ⊢;have s0:=row_cell hbx (j:=0) rfl;have s1:=row_cell hbx (j:=1) rfl;have s2:=row_cell hbx (j:=2) rfl;have v0:=hE1.cell v0;have HE:=dh hE1;clear hW1 hE1 hbx;generalize w.heap.size=sx at s0 s1 s2 ⊢;rcases Int.lt_or_le t 0 with h1 | h1
 ·clear h
  go_quiet (fail)
  go_wp2_with fail;go_ret;exact ⟨rfl,below_drewN HE.out _⟩
 have h1':¬ t<0:=by omega
 rcases Int.lt_or_le t g.length with h2 | h2
 rotate_left
 ·clear h
  go_quiet (fail)
  go_wp2_with fail;go_ret;exact ⟨rfl,below_drewN HE.out _⟩
 have h2':¬ (g.length:Int)<=t:=by omega
 have h3:r≠5/\r≠6/\N≠0:=by omega
 have n5:(r != 5)=true:=by simp [h3.1]
 have n6:(r != 6)=true:=by simp [h3.2.1]
 have n0:(N != 0)=true:=by simp [h3.2.2]
 clear h h3
 go_quiet (fail)
 go_wp2_with fail;go_ret;exact ⟨rfl,below_drewN HE.out _⟩
theorem right_other (vb:Nat) (g:List Ty) (rs:List Reveal) (C:Nat->Nat) (w:World) (hv:EnvR w vb g rs C) (a z:Nat) (ha:a<g.length) (ht:z<g.length) (r:Int) (hr:¬ (1<=r/\r<=7)) :
  Calls Tryz.prog 72 #[.pointer (some ⟨vb,0,none⟩),.int .i64 a,.agg #[.int .u8 r,.int .i64 z,.int .i64 0]] w fun e w'=>e=.returned (.bool false)/\Ext w w':=by
 have k1:(r==1)=false:=by rw [beq_eq_false_iff_ne]; omega
 have k2:(r==2)=false:=by rw [beq_eq_false_iff_ne]; omega
 have k3:(r==3)=false:=by rw [beq_eq_false_iff_ne]; omega
 have k4:(r==4)=false:=by rw [beq_eq_false_iff_ne]; omega
 have k5:(r==5)=false:=by rw [beq_eq_false_iff_ne]; omega
 have k6:(r==6)=false:=by rw [beq_eq_false_iff_ne]; omega
 have k7:(r==7)=false:=by rw [beq_eq_false_iff_ne]; omega
 have n5:(r != 5)=true:=by unfold bne; rw [k5]; rfl
 have n6:(r != 6)=true:=by unfold bne; rw [k6]; rfl
 obtain ⟨ga,gc,ra,rc,ca,cc,v0,v1,v2,hg,hre,hC⟩:=hv;obtain ⟨gb,gof,pa,pl,pc,ma,ml,mc,oa,ol,oc,hab,hT⟩:=ty_args hg ha;cases hab;obtain ⟨gb2,gof2,qa,ql,qc,na,nl,nc,xa,xl,xc,hab2,hT2⟩:=ty_args hg ht;cases hab2;obtain ⟨c0,c1,c2,c3,c4,c5,c6,c7,c8,c9,_,_,_,_⟩:=hT;obtain ⟨d0,d1,d2,d3,d4,d5,d6,d7,d8,d9,_,_,_,_⟩:=hT2;have hgb:=(SlW.bound hg).2;have hrb:=(SlW.bound hre).2;have Hre:=dh hre;have HC:=dh hC;clear hg hre hC;have t1:¬ (z:Int)<0:=by omega
 have t2:¬ (g.length:Int)<=z:=by omega
 go_enter Tryz.func72,Tryz.ntmps72
 go_upto_region 1 with (fail);have hbx:(w.alloc (.cells #[.int .u8 r,.int .i64 z,.int .i64 0] 93)).heap[w.heap.size]? = some (.cells #[.int .u8 r,.int .i64 z,.int .i64 0] 93 (0,0)):=heap_alloc_new _ _;obtain ⟨W1,hW1⟩:∃ W1:World,W1=w.alloc (.cells #[.int .u8 r,.int .i64 z,.int .i64 0] 93):=⟨_,rfl⟩;have hE1:Ext w W1:=by rw [hW1]; exact Ext.alloc _ _
 rw [<- hW1] at hbx ⊢;have s0:=row_cell hbx (j:=0) rfl;have s1:=row_cell hbx (j:=1) rfl;have s2:=row_cell hbx (j:=2) rfl;have v0:=hE1.cell v0;have v1:=hE1.cell v1;have v2:=hE1.cell v2;have c0:=hE1.cell c0;have c1:=hE1.cell c1;have c2:=hE1.cell c2;have c3:=hE1.cell c3;have c4:=hE1.cell c4;have c5:=hE1.cell c5;have c6:=hE1.cell c6;have c7:=hE1.cell c7;have c8:=hE1.cell c8;have c9:=hE1.cell c9;have d0:=hE1.cell d0;have d1:=hE1.cell d1;have d2:=hE1.cell d2;have d3:=hE1.cell d3;have d4:=hE1.cell d4;have d5:=hE1.cell d5;have d6:=hE1.cell d6;have d7:=hE1.cell d7;have d8:=hE1.cell d8;have d9:=hE1.cell d9;have HE:=dh hE1;clear hW1 hE1 hbx;generalize w.heap.size=sx at s0 s1 s2 ⊢
 go_quiet (fail)
 obtain ⟨W2,hW2⟩:∃ W2:World,W2=W1.drewN nq:=⟨_,rfl⟩;have hE2:Ext W1 W2:=by rw [hW2]; exact below_drewN (Ext.refl _) nq
 rw [<- hW2];clear hW2;have s0:=hE2.cell s0;have s1:=hE2.cell s1;have s2:=hE2.cell s2;have v0:=hE2.cell v0;have v1:=hE2.cell v1;have v2:=hE2.cell v2;have c0:=hE2.cell c0;have c1:=hE2.cell c1;have c2:=hE2.cell c2;have c3:=hE2.cell c3;have c4:=hE2.cell c4;have c5:=hE2.cell c5;have c6:=hE2.cell c6;have c7:=hE2.cell c7;have c8:=hE2.cell c8;have c9:=hE2.cell c9;have d0:=hE2.cell d0;have d1:=hE2.cell d1;have d2:=hE2.cell d2;have d3:=hE2.cell d3;have d4:=hE2.cell d4;have d5:=hE2.cell d5;have d6:=hE2.cell d6;have d7:=hE2.cell d7;have d8:=hE2.cell d8;have d9:=hE2.cell d9;have HE:=dh (HE.out.trans hE2);clear hE2;rename World=>W2;go_upto_region 4 with (fail);have htx:(W2.alloc (.cells (tyArr (nth g a) pa pl pc ma ml mc oa ol oc) 50)).heap[W2.heap.size]? = some (.cells (tyArr (nth g a) pa pl pc ma ml mc oa ol oc) 50 (0,0)):=heap_alloc_new _ _;obtain ⟨W3,hW3⟩:∃ W3:World,W3=W2.alloc (.cells (tyArr (nth g a) pa pl pc ma ml mc oa ol oc) 50):=⟨_,rfl⟩;have hE2:Ext W2 W3:=by rw [hW3]; exact Ext.alloc _ _
 rw [<- hW3] at htx;unfold tyArr at hW3;rw [<- hW3];clear hW3;have s0:=hE2.cell s0;have s1:=hE2.cell s1;have s2:=hE2.cell s2;have v0:=hE2.cell v0;have v1:=hE2.cell v1;have v2:=hE2.cell v2;have d0:=hE2.cell d0;have d1:=hE2.cell d1;have d2:=hE2.cell d2;have d3:=hE2.cell d3;have d4:=hE2.cell d4;have d5:=hE2.cell d5;have d6:=hE2.cell d6;have d7:=hE2.cell d7;have d8:=hE2.cell d8;have d9:=hE2.cell d9;have HE:=dh (HE.out.trans hE2);have Htx:=dh htx;clear hE2 htx c0 c1 c2 c3 c4 c5 c6 c7 c8 c9;generalize W2.heap.size=tx at Htx ⊢;rename World=>W3;refine Zr 9 ?_;change wpE _ _ _ _ _ _ _ _ (World.drew _);refine Zg 0 ?_;refine Zg 1 ?_;refine Zg 2 ?_;refine Zc 3 v0 ?_;refine Zg 4 ?_;refine Zc 5 s1 ?_;refine Zg 6 ?_;refine Zf 7 rfl (fun w9 hE=>by have d0E:=hE.cell d0; have d1E:=hE.cell d1; have d2E:=hE.cell d2; have d3E:=hE.cell d3; have d4E:=hE.cell d4; have d5E:=hE.cell d5; have d6E:=hE.cell d6; have d7E:=hE.cell d7; have d8E:=hE.cell d8; have d9E:=hE.cell d9; clear hE; first | (go_simp; done) | (go_simp; with_reducible rfl)) ?_;refine Zo 8 fun K hK=>?_;go_simp;refine hK _ _ (Ext.alloc _ _) ?_; clear hK K;refine wpE_last rfl (by kernel_rfl) (by kernel_rfl) (by kernel_rfl) (fun K hK=>?_);go_simp;refine hK _ _ ?_; clear hK K;have hux:((W3.alloc (.cells (tyArr (nth g z) qa ql qc na nl nc xa xl xc) 50)).drew).heap[W3.heap.size]? = some (.cells (tyArr (nth g z) qa ql qc na nl nc xa xl xc) 50 (0,0)):=heap_alloc_new _ _;obtain ⟨W4,hW4⟩:∃ W4:World,W4=(W3.alloc (.cells (tyArr (nth g z) qa ql qc na nl nc xa xl xc) 50)).drew:=⟨_,rfl⟩;have hE2:Ext W3 W4:=by rw [hW4]; exact (Ext.alloc _ _).trans (Ext.drew _)
 rw [<- hW4] at hux;unfold tyArr at hW4;rw [<- hW4];clear hW4;have s0:=hE2.cell s0;have s1:=hE2.cell s1;have s2:=hE2.cell s2;have v0:=hE2.cell v0;have v1:=hE2.cell v1;have v2:=hE2.cell v2;have HE:=dh (HE.out.trans hE2);have htx:=(hE2.block _ (row_lt Htx.out)).trans Htx.out;obtain ⟨b0,b1,b2,b3,b4,b5,b6,b7,b8,b9⟩:=tyBox_of htx;obtain ⟨e0,e1,e2,e3,e4,e5,e6,e7,e8,e9⟩:=tyBox_of hux;clear hE2 htx Htx hux d0 d1 d2 d3 d4 d5 d6 d7 d8 d9 b3 b4 b7 b8 b9;generalize W3.heap.size=ux at e0 e1 e2 e3 e4 e5 e6 e7 e8 e9 ⊢;rename World=>W4;go_upto_region 5 with (fail);go_wp2_with fail;go_ret;exact ⟨rfl,HE.out⟩
section
variable {g:List Ty} {C:Nat->Nat} {rs:List Reveal} {a:Nat}
theorem any_iff {s:IStp}:((stepsL g C rs a).any fun y=>decide (y.toI=s))=true↔∃ y,StepOk g C rs a y/\y.toI=s:=by
 rw [List.any_eq_true];constructor
 ·rintro ⟨y,h1,h2⟩; exact ⟨y,mem_steps.1 h1,of_decide_eq_true h2⟩
 ·rintro ⟨y,h1,h2⟩; exact ⟨y,mem_steps.2 h1,decide_eq_true h2⟩
theorem any_nat {r z n:Nat}:((stepsL g C rs a).any fun y=>decide (y.toI=(⟨r,z,n⟩:IStp)))=decide (StepOk g C rs a ⟨r,z,n⟩):=by
 rw [Bool.eq_iff_iff,decide_eq_true_iff,any_iff];constructor
 ·rintro ⟨⟨r',z',n'⟩,h,e⟩;unfold Stp.toI at e;injection e with e1 e2 e3
  have e1:r'=r:=by exact Int.ofNat.inj e1
  have e2:z'=z:=by exact Int.ofNat.inj e2
  have e3:n'=n:=by exact Int.ofNat.inj e3
  subst e1 e2 e3;exact h
 ·intro h; exact ⟨_,h,rfl⟩
theorem any_none {s:IStp} (h:∀ y,StepOk g C rs a y->y.toI≠s):((stepsL g C rs a).any fun y=>decide (y.toI=s))=false:=by
 rw [Bool.eq_false_iff];intro hh;obtain ⟨y,h1,h2⟩:=any_iff.1 hh;exact h y h1 h2
theorem ok_lt {s:Stp} (hs:∀ u,u∈succF g C rs a->u<g.length) (h:StepOk g C rs a s):s.to_<g.length:=hs _ (List.mem_map.2 ⟨s,mem_steps.2 h,rfl⟩)
theorem rightI72 (vb:Nat) (w:World) (hv:EnvR w vb g rs C) (h400:g.length<=400) (ha:a<g.length) (hs:∀ u,u∈succF g C rs a->u<g.length) (h0:hasSuperB (nth g a).kind=true->0<=(nth g a).super) (hr:∀ k,k<rs.length->0<=(nth rs k).type) (s:IStp) :
  Calls Tryz.prog 72 #[.pointer (some ⟨vb,0,none⟩),.int .i64 a,.agg #[.int .u8 s.rule,.int .i64 s.to_,.int .i64 s.n]] w fun e w'=>e=.returned (.bool ((stepsL g C rs a).any fun y=>decide (y.toI=s)))/\Ext w w':=by
 obtain ⟨r,t,N⟩:=s;show Calls Tryz.prog 72 #[.pointer (some ⟨vb,0,none⟩),.int .i64 a,.agg #[.int .u8 r,.int .i64 t,.int .i64 N]] w _
 by_cases hout:t<0\/(g.length:Int)<=t\/r≠5/\r≠6/\N≠0
 ·rw [any_none (fun y hy e=>by
   have h1:=ok_lt hs hy;have h2:=ok_rule hy;obtain ⟨r',z',n'⟩:=y;unfold Stp.toI at e;injection e with e1 e2 e3
   have e1:(r':Int)=r:=e1;have e2:(z':Int)=t:=e2;have e3:(n':Int)=N:=e3;simp only at h1 h2;omega)]
  exact right_out vb g rs C w hv h400 a r t N hout
 obtain ⟨z,rfl⟩:∃ z:Nat,t=z:=⟨t.toNat,by omega⟩;have hz:z<g.length:=by omega
 by_cases h17:1<=r/\r<=7;rotate_left
 ·have hN:N=0:=by omega
  subst hN;rw [any_none (fun y hy e=>by
   have h2:=ok_rule hy;obtain ⟨r',z',n'⟩:=y;unfold Stp.toI at e;injection e with e1 e2 e3
   have e1:(r':Int)=r:=e1;simp only at h2;omega)]
  exact right_other vb g rs C w hv a z ha hz r h17
 obtain ⟨q,rfl⟩:∃ q:Nat,r=q:=⟨r.toNat,by omega⟩;rcases Int.lt_or_le N 0 with hN | hN
 ·rw [any_none (fun y hy e=>by
   obtain ⟨r',z',n'⟩:=y;unfold Stp.toI at e;injection e with e1 e2 e3
   have e3:(n':Int)=N:=e3;omega)]
  have hin:hasI rs.length N=false:=by cases h:hasI rs.length N with | false=>rfl | true=>exact absurd (hasI_iff.1 h).1 (by omega)
  rcases (show q=5\/q=6 by omega) with rfl | rfl
  ·have:=right_5 vb g rs C w hv a z ha hz N;rw [hin] at this;simp only [Bool.and_false,Bool.false_and] at this;exact this
  ·have:=right_6 vb g rs C w hv a z ha hz N;rw [hin] at this;simp only [Bool.and_false,Bool.false_and] at this;exact this
 obtain ⟨n,rfl⟩:∃ n:Nat,N=n:=⟨N.toNat,by omega⟩;rw [any_nat];exact right_w vb w hv ha hz h0 hr q n (by omega) (by omega)
end
end
section
def Path (succ:Nat->List Nat) (a:Nat):Nat->Nat->Prop
 | 0,b=>b=a
 | k+1,b=>∃ c,Path succ a k c/\b∈succ c
theorem Path.reach {succ:Nat->List Nat} {a:Nat}:∀ {k b:Nat},Path succ a k b->Reach succ a b
 | 0,b,h=>by
  have h:b=a:=h;rw [h]; exact Reach.refl
 | _+1,_,⟨_,h1,h2⟩=>(Path.reach h1).step h2
theorem Path.of_reach {succ:Nat->List Nat} {a b:Nat} (h:Reach succ a b):∃ k,Path succ a k b:=by
 induction h with
 | refl=>exact ⟨0,rfl⟩
 | step _ hc ih=>obtain ⟨k,hk⟩:=ih; exact ⟨k+1,_,hk,hc⟩
theorem Path.lt {n a:Nat} {succ:Nat->List Nat} (ha:a<n) (hs:∀ x,x<n->∀ u,u∈succ x->u<n):∀ {k b:Nat},Path succ a k b->b<n
 | 0,b,h=>by
  have h:b=a:=h;omega
 | _+1,_,⟨_,h1,h2⟩=>hs _ (Path.lt ha hs h1) _ h2
def FarOk (n:Nat) (succ:Nat->List Nat) (a:Nat) (f:Nat->Int):Prop :=
 ∀ b,b<n->(f b=-1\/0<=f b)/\(0<=f b->Path succ a (f b).toNat b)/\∀ k,Path succ a k b->0<=f b/\f b<=k
def freeN (n:Nat) (f:Nat->Int):Nat:=unseen n fun i=>decide (0<=f i)
def setF (f:Nat->Int) (b:Nat) (v:Int):Nat->Int:=fun i=>if i=b then v else f i
theorem setF_self (f:Nat->Int) (b:Nat) (v:Int):setF f b v b=v:=if_pos rfl
theorem setF_ne {f:Nat->Int} {b i:Nat} {v:Int} (h:i≠b):setF f b v i=f i:=if_neg h
theorem freeN_set {n b:Nat} {f:Nat->Int} {v:Int} (hb:b<n) (h:f b<0) (hv:0<=v):freeN n (setF f b v)<freeN n f:=by
 unfold freeN;have:=unseen_mark (S:=fun i=>decide (0<=f i)) hb (decide_eq_false (by omega));have he:unseen n (fun i=>decide (0<=setF f b v i))=unseen n (mark (fun i=>decide (0<=f i)) b):=by
  unfold unseen
  congr 1
  refine List.filter_congr (fun i _=>?_);show (!decide (0<=setF f b v i))=!(i==b||decide (0<=f i))
  by_cases e:i=b
  ·subst e; rw [setF_self]; simp [hv]
  ·rw [setF_ne e]; simp [beq_eq_false_iff_ne.2 e]
 rw [he];exact this
theorem freeN_le (n:Nat) (f:Nat->Int):freeN n f<=n:=unseen_le n _
structure FInv (n:Nat) (succ:Nat->List Nat) (a:Nat) (f:Nat->Int) (Q:List Nat):Prop where
 val:∀ u,u<n->f u=-1\/0<=f u/\f u<=n
 way:∀ u,u<n->0<=f u->Path succ a (f u).toNat u
 que:∀ x,x∈Q->x<n/\0<=f x
 cls:∀ x,x<n->0<=f x->x∈Q\/∀ y,y<n->y∈succ x->0<=f y/\f y<=f x+1
 srt:Q.Pairwise fun x y=>f x<=f y
 top:∀ q Q',Q=q :: Q'->∀ u,u<n->0<=f u->f u<=f q+1
 org:f a=0
 cnt:∀ u,u<n->0<=f u->f u+(freeN n f:Int)<n
structure LookF (n:Nat) (succ:Nat->List Nat) (a x b:Nat) (f:Nat->Int) (Q:List Nat):Prop where
 val:∀ u,u<n->f u=-1\/0<=f u/\f u<=n
 way:∀ u,u<n->0<=f u->Path succ a (f u).toNat u
 que:∀ z,z∈Q->z<n/\0<=f z
 cls:∀ z,z<n->0<=f z->z∈Q\/z=x\/∀ y,y<n->y∈succ z->0<=f y/\f y<=f z+1
 srt:Q.Pairwise fun y z=>f y<=f z
 low:∀ z,z∈Q->f x<=f z
 top:∀ u,u<n->0<=f u->f u<=f x+1
 fx:x<n/\0<=f x
 done:∀ y,y<b->y∈succ x->0<=f y/\f y<=f x+1
 org:f a=0
 cnt:∀ u,u<n->0<=f u->f u+(freeN n f:Int)<n
theorem freeN_start {n a:Nat} (ha:a<n):freeN n (setF (fun _=>-1) a 0)<n:=by
 have:=freeN_set (f:=fun _=>-1) (v:=0) ha (by decide) (by decide);have:=freeN_le n (fun _=>-1);omega
theorem FInv.start {n a:Nat} {succ:Nat->List Nat} (ha:a<n):FInv n succ a (setF (fun _=>-1) a 0) [a]:=by
 have hv:∀ u,0<=setF (fun _=>-1) a 0 u->u=a:=fun u hu=>by
  by_cases e:u=a
  ·exact e
  ·rw [setF_ne e] at hu; omega
 refine ⟨fun u _=>?_,fun u _ h=>?_,fun x hx=>?_,fun x _ h=>?_,by simp,fun q Q' e u _ hu=>?_,setF_self _ _ _,fun u _ hu=>?_⟩
 ·by_cases e:u=a
  ·subst e; rw [setF_self]; omega
  ·rw [setF_ne e]; exact Or.inl rfl
 ·rw [hv u h,setF_self]; rfl
 ·rw [List.mem_singleton] at hx;subst hx; rw [setF_self]; exact ⟨ha,by decide⟩
 ·rw [hv x h]; exact Or.inl (by simp)
 ·cases e;rw [hv u hu,setF_self]; decide
 ·rw [hv u hu,setF_self];have:=freeN_start ha;omega
theorem FInv.look {n a x:Nat} {succ:Nat->List Nat} {f:Nat->Int} {Q:List Nat} (h:FInv n succ a f (x :: Q)):LookF n succ a x 0 f Q :=
 ⟨h.val,h.way,fun z hz=>h.que z (List.mem_cons_of_mem _ hz),fun z h1 h2=>by
  rcases h.cls z h1 h2 with h3 | h3
  ·rcases List.mem_cons.1 h3 with rfl | h3
   ·exact Or.inr (Or.inl rfl)
   ·exact Or.inl h3
  ·exact Or.inr (Or.inr h3),(List.pairwise_cons.1 h.srt).2,(List.pairwise_cons.1 h.srt).1,h.top x Q rfl,h.que x (by simp),fun y hy=>absurd hy (Nat.not_lt_zero _),h.org,h.cnt⟩
theorem LookF.all {n a x:Nat} {succ:Nat->List Nat} {f:Nat->Int} {Q:List Nat} (h:LookF n succ a x n f Q):FInv n succ a f Q :=
 ⟨h.val,h.way,h.que,fun z h1 h2=>by
  rcases h.cls z h1 h2 with h3 | rfl | h3
  ·exact Or.inl h3
  ·exact Or.inr h.done
  ·exact Or.inr h3,h.srt,fun q Q' e u h1 h2=>by
   have h3:=h.low q (by rw [e]; simp);have h4:=h.top u h1 h2;omega,h.org,h.cnt⟩
theorem LookF.skip {n a x b:Nat} {succ:Nat->List Nat} {f:Nat->Int} {Q:List Nat} (h:LookF n succ a x b f Q) (hbn:b<n) (hb:b∈succ x->0<=f b):LookF n succ a x (b+1) f Q :=
 ⟨h.val,h.way,h.que,h.cls,h.srt,h.low,h.top,h.fx,fun y hy hm=>by
   by_cases e:y=b
   ·subst e; exact ⟨hb hm,h.top _ hbn (hb hm)⟩
   ·exact h.done y (by omega) hm,h.org,h.cnt⟩
theorem LookF.push {n a x b:Nat} {succ:Nat->List Nat} {f:Nat->Int} {Q:List Nat} (h:LookF n succ a x b f Q) (hbn:b<n) (hb:b∈succ x) (hf:f b<0):LookF n succ a x (b+1) (setF f b (f x+1)) (Q++[b]):=by
 obtain ⟨hxn,hx0⟩:=h.fx;have hxb:x≠b:=fun e=>by subst e; omega
 have hfx:setF f b (f x+1) x=f x:=setF_ne hxb;have old:∀ u,0<=f u->setF f b (f x+1) u=f u:=fun u hu=>setF_ne (fun e=>by subst e; omega);have cas:∀ u,0<=setF f b (f x+1) u->u=b\/0<=f u/\setF f b (f x+1) u=f u:=fun u hu=>by
  by_cases e:u=b
  ·exact Or.inl e
  ·rw [setF_ne e] at hu ⊢; exact Or.inr ⟨hu,rfl⟩
 have hfr:=freeN_set (v:=f x+1) hbn hf (by omega);have hc:=h.cnt x hxn hx0;refine ⟨fun u hu=>?_,fun u hu h0=>?_,fun z hz=>?_,fun z hz h0=>?_,?_,fun z hz=>?_,fun u hu h0=>?_,⟨hxn,by rw [hfx]; exact hx0⟩,fun y hy hm=>?_,?_,fun u hu h0=>?_⟩
 ·by_cases e:u=b
  ·subst e; rw [setF_self]; right; constructor <;> omega
  ·rw [setF_ne e]; exact h.val u hu
 ·rcases cas u h0 with rfl | ⟨h1,h2⟩
  ·rw [setF_self,show (f x+1).toNat=(f x).toNat+1 by omega];exact ⟨x,h.way x hxn hx0,hb⟩
  ·rw [h2]; exact h.way u hu h1
 ·rcases List.mem_append.1 hz with hz | hz
  ·have:=h.que z hz;rw [old z this.2]; exact this
  ·rw [List.mem_singleton] at hz;subst hz; rw [setF_self]; exact ⟨hbn,by omega⟩
 ·rcases cas z h0 with rfl | ⟨h1,h2⟩
  ·exact Or.inl (by simp)
  ·rcases h.cls z hz h1 with h3 | h3 | h3
   ·exact Or.inl (List.mem_append_left _ h3)
   ·exact Or.inr (Or.inl h3)
   ·refine Or.inr (Or.inr fun y hy hm=>?_);have h4:=h3 y hy hm;rw [old y h4.1,h2]; exact h4
 ·rw [List.pairwise_append];refine ⟨h.srt.imp_of_mem (fun {y z} hy hz hyz=>by rw [old y (h.que y hy).2,old z (h.que z hz).2]; exact hyz),by simp,fun y hy z hz=>?_⟩;rw [List.mem_singleton] at hz;subst hz;have:=h.que y hy;rw [setF_self,old y this.2];exact h.top y this.1 this.2
 ·rw [hfx];rcases List.mem_append.1 hz with hz | hz
  ·rw [old z (h.que z hz).2]; exact h.low z hz
  ·rw [List.mem_singleton] at hz;subst hz; rw [setF_self]; omega
 ·rw [hfx];rcases cas u h0 with rfl | ⟨h1,h2⟩
  ·rw [setF_self]; exact Int.le_refl _
  ·rw [h2]; exact h.top u hu h1
 ·rw [hfx];by_cases e:y=b
  ·subst e; rw [setF_self]; exact ⟨by omega,Int.le_refl _⟩
  ·have:=h.done y (by omega) hm;rw [old y this.1]; exact this
 ·rw [old a (by rw [h.org]; decide)]; exact h.org
 ·rcases cas u h0 with rfl | ⟨h1,h2⟩
  ·rw [setF_self]; omega
  ·rw [h2];have:=h.cnt u hu h1;omega
theorem FInv.done {n a:Nat} {succ:Nat->List Nat} {f:Nat->Int} (hs:∀ x,x<n->∀ u,u∈succ x->u<n) (ha:a<n) (h:FInv n succ a f []):FarOk n succ a f:=by
 have key:∀ k b,Path succ a k b->0<=f b/\f b<=k:=by
  intro k
  induction k with
  | zero =>
   intro b hb;have hb:b=a:=hb;subst hb;rw [h.org]; exact ⟨by decide,by decide⟩
  | succ k ih =>
   rintro b ⟨c,hc,hb⟩;have hcn:=Path.lt ha hs hc;have h1:=ih c hc;rcases h.cls c hcn h1.1 with h2 | h2
   ·cases h2
   ·have:=h2 b (hs c hcn b hb) hb;constructor <;> omega
 exact fun b hb=>⟨(h.val b hb).imp id And.left,h.way b hb,fun k=>key k b⟩
end
section
open Go.RowKit Go.Proofs
structure BfsF (W0 wx:World) (n:Nat) (f:Nat->Int) (v:Value) (Q:List Nat):Prop where
 ext:Ext W0 wx
 row:RowI wx W0.heap.size n f
 que:Tail wx (W0.heap.size+1) v Q
section
variable {W0 wx:World} {n:Nat} {f:Nat->Int} {v:Value} {Q:List Nat}
theorem BfsF.mono {w2:World} (h:BfsF W0 wx n f v Q) (hE:Ext wx w2):BfsF W0 w2 n f v Q:=⟨h.ext.trans hE,h.row.ext hE,h.que.ext hE⟩
theorem BfsF.set (h:BfsF W0 wx n f v Q) (u:Nat) (x:Int):BfsF W0 (wx.setCell ⟨W0.heap.size,u,none⟩ (.int .i64 x)) n (setF f u x) v Q :=
 ⟨Below.setCell h.ext (Nat.le_refl _) _,h.row.set u x,h.que.kept (fun g hg=>Below.heap_setCell _ _ _ _ (by have:=h.que.own hg; show g≠W0.heap.size; omega))⟩
theorem BfsF.pop {v2:Value} {Q':List Nat} (h:BfsF W0 wx n f v Q) (hT:Tail wx (W0.heap.size+1) v2 Q'):BfsF W0 wx n f v2 Q':=⟨h.ext,h.row,hT⟩
theorem PushT.bfsF {w':World} {v':Value} {y:Nat} (h:PushT wx w' (W0.heap.size+1) v v' Q y) (hB:BfsF W0 wx n f v Q):BfsF W0 w' n f v' (Q++[y]):=by
 obtain ⟨g,cur,h1,h2,h3⟩:=h.step;have hg:=hB.que.own h1;exact ⟨hB.ext.grown h3 hB.ext.size (fun q e=>by cases e; omega),hB.row.kept h3 (fun e=>by have e:=Option.some.inj e; omega),h.tail⟩
theorem BfsF.start (W0:World) (n a:Nat) (f:Nat->Int) {wx:World} (hE:Ext W0 wx) (hr:RowI wx W0.heap.size n f):BfsF W0 (wx.alloc (.cells #[.int .i64 a] 3)) n f (.slice (some ⟨wx.heap.size,0,none⟩) 1 1) [a] :=
 ⟨hE.trans (Ext.alloc _ _),hr.ext (Ext.alloc _ _),wx.heap.size,0,1,_,rfl,hr.lt,heap_alloc_new _ _,by simp,by unfold maxLen; omega,Or.inr ⟨by simp,by simp⟩,fun i x hx=>by
  match i,hx with
  | 0,hx=>simp at hx; subst hx; simp⟩
end
def RowN (n:Nat) (b:Nat) (cs:List Value):Prop:=cs=[.slice (some ⟨b,0,none⟩) n n]
theorem rowN_cells (n:Nat):∀ y cs,RowN n y cs->∀ u,u∈cs->u.oneCell'=true:=fun y cs h u hu=>by
 rw [show cs=_ from h] at hu;simp only [List.mem_cons,List.not_mem_nil,or_false] at hu;subst hu; rfl
theorem rowN_one {w:World} (n b:Nat):SlW (fun _=>RowN n) 1 (w.alloc (.cells #[.slice (some ⟨b,0,none⟩) n n] 35)) (.slice (some ⟨w.heap.size,0,none⟩) 1 1) [b] :=
 ⟨_,1,rfl,Nat.le_refl 1,by unfold maxBytes; simp,fun i y hy=>by
  match i,hy with
  | 0,hy =>
   cases hy;refine ⟨w.heap.size,0,_,rfl,rfl,rfl,fun j u hu=>?_⟩
   match j,hu with
   | 0,hu=>cases hu; exact cell_new1 _ _ _⟩
theorem info35:(Tryz.prog.info? 35).map (fun i=>(i.zero,i.size,i.bytes))=some (some (.slice none 0 0),1,24):=by kernel_rfl
structure FarI (w wr:World) (vb n:Nat) (gv rv:Value) (r:Nat) (C:Nat->Nat) (t:Nat) (rb:Nat->Nat) (F:Nat->Nat->Bool) (fv:Value) (fbs:List Nat) (D:Nat->Nat->Int):Prop where
 ext:Ext w wr
 vlo:w.heap.size<=vb
 env:wr.heap[vb]? = some (.cells #[gv,rv,.slice (some ⟨r,0,none⟩) n n,fv] 107 (0,0))
 cls:RowI wr r n fun i=>(C i:Int)
 mat:Mat w wr t n n rb F
 own:OwnL (RowN n) 35 1 wr w.heap.size fv fbs
 rows:∀ i,i<fbs.length->RowI wr (nth fbs i) n (D i)
section
variable {w wr:World} {vb n r t:Nat} {gv rv fv:Value} {C:Nat->Nat} {rb:Nat->Nat} {F:Nat->Nat->Bool} {fbs:List Nat} {D:Nat->Nat->Int}
theorem FarI.mono {w2:World} (h:FarI w wr vb n gv rv r C t rb F fv fbs D) (hE:Ext wr w2):FarI w w2 vb n gv rv r C t rb F fv fbs D :=
 ⟨h.ext.trans hE,h.vlo,(hE.block _ (row_lt h.env)).trans h.env,h.cls.ext hE,h.mat.mono hE,own_later h.own hE,fun i hi=>(h.rows i hi).ext hE⟩
theorem own_type {α:Type} {R:α->List Value->Prop} {e:TypeId} {sz:Nat} {w:World} {base:Nat} {v:Value} {xs:List α} (h:OwnL R e sz w base v xs) {b:Nat} (hb:v.ownBlock=some b):∃ cur,w.heap[b]? = some (.cells cur e (0,0)):=by
 obtain ⟨css,_,_,_,hrow⟩:=h;rcases hrow.2 with ⟨rfl,_⟩ | ⟨g,cap,cur,rfl,_,hg,_⟩
 ·cases hb
 ·cases hb; exact ⟨cur,hg⟩
theorem ne_type {w:World} {a b:Nat} {x y:Array Value} {T U:TypeId} (ha:w.heap[a]? = some (.cells x T (0,0))) (hb:w.heap[b]? = some (.cells y U (0,0))) (h:T≠U):a≠b:=fun e=>by
 subst e;rw [ha] at hb;injection hb with hb
 injection hb with _ hb _
 exact h hb
theorem FarI.push {w1 w2:World} {v':Value} {fb:Nat} {f:Nat->Int} (h:FarI w w1 vb n gv rv r C t rb F fv fbs D) (hf:RowI w1 fb n f) (hO:OwnL (RowN n) 35 1 w2 w.heap.size v' (fbs++[fb])) (hg:w1.grownBy w2 fv.ownBlock) :
  FarI w (w2.setCell ⟨vb,3,none⟩ v') vb n gv rv r C t rb F v' (fbs++[fb]) (fun i=>if i=fbs.length then f else D i):=by
 have keep:∀ (j:Nat) (cs:Array Value) (T:TypeId),w1.heap[j]? = some (.cells cs T (0,0))->T≠35->w2.heap[j]? = some (.cells cs T (0,0)):=fun j cs T hj hT =>
  (hg.block j (row_lt hj) (fun e=>by
   obtain ⟨cur,hc⟩:=own_type h.own e.symm;exact ne_type hj hc hT rfl)).trans hj
 have henv:=keep vb _ _ h.env (by decide);have out:∀ (j:Nat) (cs:Array Value) (T:TypeId),w1.heap[j]? = some (.cells cs T (0,0))->T≠35->T≠107->(w2.setCell ⟨vb,3,none⟩ v').heap[j]? = some (.cells cs T (0,0)):=fun j cs T hj h1 h2 =>
  (Below.heap_setCell _ _ _ _ (fun e=>by
   have e:j=vb:=e;exact ne_type hj h.env h2 e)).trans (keep j cs T hj h1)
 have hE2:Ext w w2:=h.ext.grown hg h.ext.size (fun q e=>(h.own.lt q e).1);refine ⟨Below.setCell hE2 h.vlo _,h.vlo,?_,out _ _ _ h.cls (by decide) (by decide),?_,?_,fun i hi=>?_⟩
 ·have:=row_set (j:=3) (v:=v') henv
  simpa using this
 ·refine h.mat.other (Below.setCell hE2 h.vlo _) (fun j hj=>?_);rcases hj with rfl | ⟨i,hi,rfl⟩
  ·rw [out _ _ _ h.mat.tab (by decide) (by decide),h.mat.tab]
  ·rw [out _ _ _ (h.mat.row i hi) (by decide) (by decide)];exact (h.mat.row i hi).symm
 ·refine hO.kept (grownBy_setB w2 vb 3 v') ?_;cases hv:v'.ownBlock with
  | none=>exact Or.inl rfl
  | some k =>
   refine Or.inr (fun e=>?_);have e:=Option.some.inj e;obtain ⟨cur,hc⟩:=own_type hO hv;exact ne_type hc henv (by decide) e
 ·rw [List.length_append,List.length_singleton] at hi;by_cases e:i=fbs.length
  ·subst e;rw [nth_eq (by simp)];simp only [if_true,List.getElem_concat_length];exact out _ _ _ hf (by decide) (by decide)
  ·rw [nth_eq (by simp; omega),List.getElem_append_left (by omega),<- nth_eq (by omega)];simp only [if_neg e];exact out _ _ _ (h.rows i (by omega)) (by decide) (by decide)
end
def EnvF (w:World) (vb:Nat) (g:List Ty) (rs:List Reveal) (C:Nat->Nat) (D:Nat->Nat->Int):Prop :=
 EnvR w vb g rs C/\∃ fa fc,w.cell? ⟨vb,3,none⟩=some (.slice fa g.length fc)/\∀ i,i<g.length->∃ b off fb,fa=some ⟨b,off,none⟩/\w.cell? ⟨b,off+i,none⟩=some (.slice (some ⟨fb,0,none⟩) g.length g.length) /\
  ∀ j,j<g.length->w.cell? ⟨fb,j,none⟩=some (.int .i64 (D i j))
theorem EnvF.mono {w w':World} {vb:Nat} {g:List Ty} {rs:List Reveal} {C:Nat->Nat} {D:Nat->Nat->Int} (h:EnvF w vb g rs C D) (hE:Ext w w'):EnvF w' vb g rs C D:=by
 obtain ⟨h1,fa,fc,h2,h3⟩:=h;refine ⟨h1.mono hE,fa,fc,hE.cell h2,fun i hi=>?_⟩;obtain ⟨b,off,fb,e,h4,h5⟩:=h3 i hi;exact ⟨b,off,fb,e,hE.cell h4,fun j hj=>hE.cell (h5 j hj)⟩
theorem FarI.env_of {w wr:World} {vb r t:Nat} {g:List Ty} {rs:List Reveal} {fv:Value} {C:Nat->Nat} {rb:Nat->Nat} {F:Nat->Nat->Bool} {fbs:List Nat} {D:Nat->Nat->Int} {ga ra:Option Addr} {gc rc:Nat}
  (h:FarI w wr vb g.length (.slice ga g.length gc) (.slice ra rs.length rc) r C t rb F fv fbs D) (hg:Graph w (.slice ga g.length gc) g) (hre:Reveals w (.slice ra rs.length rc) rs) (hC:∀ i,C i<=i) (h400:g.length<=400):EnvR wr vb g rs C :=
 ⟨ga,gc,ra,rc,_,_,row_cell h.env rfl,row_cell h.env rfl,row_cell h.env rfl,Graph.mono h.ext hg,Reveals.mono h.ext hre,h.cls.ints (by unfold maxBytes; omega) (fun i hi=>by have:=hC i; omega)⟩
theorem FarI.done {w wr:World} {vb r t:Nat} {g:List Ty} {rs:List Reveal} {fv:Value} {C:Nat->Nat} {rb:Nat->Nat} {F:Nat->Nat->Bool} {fbs:List Nat} {D:Nat->Nat->Int} {ga ra:Option Addr} {gc rc:Nat}
  (h:FarI w wr vb g.length (.slice ga g.length gc) (.slice ra rs.length rc) r C t rb F fv fbs D) (hl:fbs.length=g.length) (hg:Graph w (.slice ga g.length gc) g) (hre:Reveals w (.slice ra rs.length rc) rs) (hC:∀ i,C i<=i) (h400:g.length<=400):EnvF wr vb g rs C D:=by
 have hs:=h.own.slw (by rw [hl]; unfold maxBytes; omega);obtain ⟨fa,fc,rfl,_,_,hx⟩:=id hs;refine ⟨h.env_of hg hre hC h400,fa,fc,by have:=row_cell h.env (j:=3) rfl; rw [hl] at this; exact this,fun i hi=>?_⟩;obtain ⟨b,off,cs,ha,hr,_,hc⟩:=hx i (nth fbs i) (get_of_lt (by omega));have h0:=hc 0 _ (by rw [show cs=_ from hr]; rfl);rw [show off+i*1+0=off+i by omega] at h0;exact ⟨b,off,nth fbs i,ha,h0,fun j hj=>(h.rows i (by omega)).cell hj⟩
def EnvT (w:World) (vb:Nat) (g:List Ty) (rs:List Reveal) (C:Nat->Nat) (D:Nat->Nat->Int) (ga:Option Addr) (gc:Nat) (ra:Option Addr) (rc:Nat):Prop :=
 ∃ r fv fbs B,w.heap[vb]? = some (.cells #[.slice ga g.length gc,.slice ra rs.length rc,.slice (some ⟨r,0,none⟩) g.length g.length,fv] 107 (0,0))/\RowI w r g.length (fun i=>(C i:Int)) /\
  OwnL (RowN g.length) 35 1 w B fv fbs/\fbs.length=g.length/\∀ i,i<fbs.length->RowI w (nth fbs i) g.length (D i)
theorem EnvT.env {w:World} {vb:Nat} {g:List Ty} {rs:List Reveal} {C:Nat->Nat} {D:Nat->Nat->Int} {ga ra:Option Addr} {gc rc:Nat}
  (h:EnvT w vb g rs C D ga gc ra rc) (hg:Graph w (.slice ga g.length gc) g) (hre:Reveals w (.slice ra rs.length rc) rs) (hC:∀ i,C i<=i) (h400:g.length<=400):EnvF w vb g rs C D:=by
 obtain ⟨r,fv,fbs,B,henv,hcls,hown,hl,hrows⟩:=h;have hs:=hown.slw (by rw [hl]; unfold maxBytes; omega);obtain ⟨fa,fc,rfl,_,_,hx⟩:=id hs;refine ⟨⟨ga,gc,ra,rc,_,_,row_cell henv rfl,row_cell henv rfl,row_cell henv rfl,hg,hre,hcls.ints (by unfold maxBytes; omega) (fun i hi=>by have:=hC i; omega)⟩,fa,fc,by have:=row_cell henv (j:=3) rfl; rw [hl] at this; exact this,fun i hi=>?_⟩;obtain ⟨b,off,cs,ha,hr,_,hc⟩:=hx i (nth fbs i) (get_of_lt (by omega));have h0:=hc 0 _ (by rw [show cs=_ from hr]; rfl);rw [show off+i*1+0=off+i by omega] at h0;exact ⟨b,off,nth fbs i,ha,h0,fun j hj=>(hrows i (by omega)).cell hj⟩
theorem FarI.donT {w wr:World} {vb r t:Nat} {g:List Ty} {rs:List Reveal} {fv:Value} {C:Nat->Nat} {rb:Nat->Nat} {F:Nat->Nat->Bool} {fbs:List Nat} {D:Nat->Nat->Int} {ga ra:Option Addr} {gc rc:Nat}
  (h:FarI w wr vb g.length (.slice ga g.length gc) (.slice ra rs.length rc) r C t rb F fv fbs D) (hl:fbs.length=g.length):EnvT wr vb g rs C D ga gc ra rc :=
 ⟨r,fv,fbs,_,h.env,h.cls,h.own,hl,h.rows⟩
end
end Go.Proofs.YtjffkeoajkhbmaaGreat
