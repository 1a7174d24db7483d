/- Said: ranges, references, arrays. Said: records, objects, opaque types. Said, whatever the kind. Said of any type. Derive and CheckDerive where they are asked wrongly. -/
import Derived.Test.YtjffkeoajkhbmaaGreatOW12
import Derived.Test.YtjffkeoajkhbmaaGreatOW23
import Derived.Test.YtjffkeoajkhbmaaGreatOW26
namespace Go.Proofs.YtjffkeoajkhbmaaGreat
set_option linter.unusedSimpArgs false
set_option linter.unusedVariables false
set_option maxRecDepth 100000
set_option maxHeartbeats 8000000
section
open Go.RowKit Go.Proofs
theorem said_b (ga:Option Addr) (n gc:Nat) (g:List Ty) (t:Ty) (pa:Option Addr) (pl pc:Nat) (ma:Option Addr) (ml mc:Nat) (oa:Option Addr) (ol oc:Nat) (w:World) (hg:Graph w (.slice ga n gc) g)
  (hp:Parts w (.slice pa pl pc) t.parts) (hm:Meths w (.slice ma ml mc) t.methods) (ho:Overs w (.slice oa ol oc) t.overs) (hok:TyOk t) (hk:t.kind=3\/t.kind=9\/t.kind=11) :
  Calls Tryz.prog 124 #[.slice ga n gc,.agg (tyArr t pa pl pc ma ml mc oa ol oc)] w fun e w'=>e=.returned (.bool (rightB g t))/\Ext w w':=by
 have hgb:=(SlW.bound hg).2;have hpb:=(SlW.bound hp).2;have hmb:=(SlW.bound hm).2;have hob:=(SlW.bound ho).2;obtain rfl:=SlW.len hg;obtain rfl:=SlW.len hp;obtain rfl:=SlW.len hm;obtain rfl:=SlW.len ho;have Hg:=dh hg;have Hp:=dh hp;have Hm:=dh hm;have Ho:=dh ho;have Hok:=dh hok;have Hk:=dh hk;clear hg hp hm ho hok hk;have HE:=dh (Ext.alloc w (.cells (tyArr t pa t.parts.length pc ma t.methods.length mc oa t.overs.length oc) 50));have HB:=dh (show (w.alloc (.cells (tyArr t pa t.parts.length pc ma t.methods.length mc oa t.overs.length oc) 50)).heap[w.heap.size]? = some (.cells (tyArr t pa t.parts.length pc ma t.methods.length mc oa t.overs.length oc) 50 (0,0)) from heap_alloc_new _ _)
 go_enter Tryz.func124,Tryz.ntmps124
 go_upto_region 1 with (fail);obtain ⟨W,hW⟩:∃ W:World,W=w.alloc (.cells (tyArr t pa t.parts.length pc ma t.methods.length mc oa t.overs.length oc) 50):=⟨_,rfl⟩;rw [<- hW] at HE HB ⊢;clear hW;obtain ⟨b0,b1,b2,b3,b4,b5,b6,b7,b8,b9⟩:=tyBox_of HB.out;go_cut [5] from 242 (fun v wx=>v=.bool (noNums t)/\wx=W)
 case first =>
  cases h1:(t.low==0)
  ·have Hv:=dh (show noNums t=false by unfold noNums; rw [h1]; rfl);go_wp2_with fail;go_meet;exact ⟨by rw [Hv.out],rfl⟩
  ·cases h2:(t.high==0)
   ·have Hv:=dh (show noNums t=false by unfold noNums; rw [h1,h2]; rfl);go_wp2_with fail;go_meet;exact ⟨by rw [Hv.out],rfl⟩
   ·have Hv:=dh (show noNums t=true by unfold noNums; rw [h1,h2]; rfl);go_wp2_with fail;go_meet;exact ⟨by rw [Hv.out],rfl⟩
 case rest =>
  obtain ⟨rfl,rfl⟩:=hcut;rename World=>W;go_upto_region 2 with (fail);go_cut [6] from 242 (fun v wx=>v=.bool (noBrand t)/\wx=W)
  case first =>
   have hb:=empty_beq t.brand;cases h1:t.branded
   ·cases h2:(t.brand.size==0)
    ·rw [h2] at hb;have Hv:=dh (show noBrand t=false by unfold noBrand; rw [h1,h2]; rfl);go_wp2_with fail;go_meet;exact ⟨by rw [Hv.out],rfl⟩
    ·rw [h2] at hb;have Hv:=dh (show noBrand t=true by unfold noBrand; rw [h1,h2]; rfl);go_wp2_with fail;go_meet;exact ⟨by rw [Hv.out],rfl⟩
   ·clear hb;have Hv:=dh (show noBrand t=false by unfold noBrand; rw [h1]; rfl);go_wp2_with fail;go_meet;exact ⟨by rw [Hv.out],rfl⟩
  case rest =>
   obtain ⟨rfl,rfl⟩:=hcut;rename World=>W;go_upto_region 3 with (fail);go_cut [7] from 242 (fun v wx=>v=.bool (noSuper t)/\wx=W)
   case first =>
    go_wp2_with fail;go_meet;exact ⟨rfl,rfl⟩
   case rest =>
    obtain ⟨rfl,rfl⟩:=hcut;rename World=>W;go_upto_region 4 with (fail);go_cut [8] from 242 (fun v wx=>v=.bool (noParts t)/\wx=W)
    case first =>
     by_cases h:t.parts.length=0
     ·have hb:((t.parts.length:Int)==0)=true:=beq_iff_eq.2 (by omega);have Hv:=dh (show noParts t=true by unfold noParts; rw [h]; rfl);clear h;go_wp2_with fail;go_meet;exact ⟨by rw [Hv.out],rfl⟩
     ·have hb:((t.parts.length:Int)==0)=false:=beq_eq_false_iff_ne.2 (by omega);have Hv:=dh (show noParts t=false by unfold noParts; exact beq_eq_false_iff_ne.2 h);clear h;go_wp2_with fail;go_meet;exact ⟨by rw [Hv.out],rfl⟩
    case rest =>
     obtain ⟨rfl,rfl⟩:=hcut;rename World=>W;go_upto_region 5 with (fail);go_cut [9] from 242 (fun v wx=>v=.bool (noRows t)/\wx=W)
     case first =>
      by_cases h:t.methods.length=0;rotate_left
      ·have hb:((t.methods.length:Int)==0)=false:=beq_eq_false_iff_ne.2 (by omega);have Hv:=dh (show noRows t=false by unfold noRows; rw [beq_eq_false_iff_ne.2 h]; rfl);clear h;go_wp2_with fail;go_meet;exact ⟨by rw [Hv.out],rfl⟩
      have hb:((t.methods.length:Int)==0)=true:=beq_iff_eq.2 (by omega);by_cases h2:t.overs.length=0
      ·have hb2:((t.overs.length:Int)==0)=true:=beq_iff_eq.2 (by omega);have Hv:=dh (show noRows t=true by unfold noRows; rw [h,h2]; rfl);clear h h2;go_wp2_with fail;go_meet;exact ⟨by rw [Hv.out],rfl⟩
      ·have hb2:((t.overs.length:Int)==0)=false:=beq_eq_false_iff_ne.2 (by omega);have Hv:=dh (show noRows t=false by unfold noRows; rw [h,beq_eq_false_iff_ne.2 h2]; rfl);clear h h2;go_wp2_with fail;go_meet;exact ⟨by rw [Hv.out],rfl⟩
     case rest =>
      obtain ⟨rfl,rfl⟩:=hcut;rename World=>W;go_upto_region 6 with (fail);go_cut [10] from 242 (fun v wx=>v=.bool (noOpq t)/\wx=W)
      case first =>
       have hb:=empty_beq t.opq;cases h2:(t.opq.size==0)
       ·rw [h2] at hb;have Hv:=dh (show noOpq t=false from h2);go_wp2_with fail;go_meet;exact ⟨by rw [Hv.out],rfl⟩
       ·rw [h2] at hb;have Hv:=dh (show noOpq t=true from h2);go_wp2_with fail;go_meet;exact ⟨by rw [Hv.out],rfl⟩
      case rest =>
       obtain ⟨rfl,rfl⟩:=hcut;rename World=>W;go_upto_region 7 with (fail);go_cut [11] from 242 (fun v wx=>v=.bool (brandR t)/\wx=W)
       case first =>
        have hb:=empty_beq t.brand;have hbs:t.brand.size<=140737488351232:=by have:=Hok.out.b; unfold maxBytes at this; omega
        cases h0:isBrandB t.brand
        ·clear hb;have Hv:=dh (show brandR t=false by unfold brandR; rw [h0]; rfl);go_wp2_with (go_at_call 156; refine (isBrand156 _ hbs _).mono ?_; rintro e w' ⟨rfl,rfl⟩);go_meet;exact ⟨by rw [Hv.out],rfl⟩
        cases h1:t.branded
        ·cases h2:(t.brand.size==0)
         ·rw [h2] at hb;have Hv:=dh (show brandR t=false by unfold brandR; rw [h0,h1,h2]; rfl);go_wp2_with (go_at_call 156; refine (isBrand156 _ hbs _).mono ?_; rintro e w' ⟨rfl,rfl⟩);go_meet;exact ⟨by rw [Hv.out],rfl⟩
         ·rw [h2] at hb;have Hv:=dh (show brandR t=true by unfold brandR; rw [h0,h1,h2]; rfl);go_wp2_with (go_at_call 156; refine (isBrand156 _ hbs _).mono ?_; rintro e w' ⟨rfl,rfl⟩);go_meet;exact ⟨by rw [Hv.out],rfl⟩
        ·clear hb;have Hv:=dh (show brandR t=true by unfold brandR; rw [h0,h1]; rfl);go_wp2_with (go_at_call 156; refine (isBrand156 _ hbs _).mono ?_; rintro e w' ⟨rfl,rfl⟩);go_meet;exact ⟨by rw [Hv.out],rfl⟩
       case rest =>
        obtain ⟨rfl,rfl⟩:=hcut;rename World=>W;rcases Hk.out with hk | hk | hk
        ·clear Hk;have Hk:=dh hk;have Hr:=dh (show rightB g t=_ from right_range g (by have:=Hk.out; omega));clear hk;generalize hN:noNums t=N;generalize hB:noBrand t=B;generalize hA:noSuper t=A;generalize hO:noParts t=O;generalize hP:noRows t=P;generalize hQ:noOpq t=Q;generalize hR:brandR t=R;simp only [hN,hB,hA,hO,hP,hQ,hR] at Hr;rw [Hk.out] at b0;clear hN hB hA hO hP hQ hR;rcases Int.lt_or_le t.low (-1000000000) with r1 | r1
         ·have Hg2:=dh (show rangedB t=false by unfold rangedB; rw [decide_eq_false (show ¬ -1000000000<=t.low by omega)]; rfl);go_wp2_with fail;go_ret;exact ⟨ret_bool (by rw [Hr.out,Hg2.out]; rfl),HE.out⟩
         rcases Int.lt_or_le t.high t.low with r2 | r2
         ·have Hg2:=dh (show rangedB t=false by unfold rangedB; rw [decide_eq_false (show ¬ t.low<=t.high by omega)]; simp);go_wp2_with fail;go_ret;exact ⟨ret_bool (by rw [Hr.out,Hg2.out]; rfl),HE.out⟩
         rcases Int.lt_or_le 1000000000 t.high with r3 | r3
         ·have Hg2:=dh (show rangedB t=false by unfold rangedB; rw [decide_eq_false (show ¬ t.high<=1000000000 by omega)]; simp);go_wp2_with fail;go_ret;exact ⟨ret_bool (by rw [Hr.out,Hg2.out]; rfl),HE.out⟩
         have Hg2:=dh (show rangedB t=true by unfold rangedB; rw [decide_eq_true r1,decide_eq_true r2,decide_eq_true r3]; rfl);cases B
         ·go_wp2_with fail;go_ret;exact ⟨ret_bool (by rw [Hr.out,Hg2.out]; rfl),HE.out⟩
         cases A
         ·go_wp2_with fail;go_ret;exact ⟨ret_bool (by rw [Hr.out,Hg2.out]; rfl),HE.out⟩
         cases O
         ·go_wp2_with fail;go_ret;exact ⟨ret_bool (by rw [Hr.out,Hg2.out]; rfl),HE.out⟩
         cases P
         ·go_wp2_with fail;go_ret;exact ⟨ret_bool (by rw [Hr.out,Hg2.out]; rfl),HE.out⟩
         cases Q
         ·go_wp2_with fail;go_ret;exact ⟨ret_bool (by rw [Hr.out,Hg2.out]; rfl),HE.out⟩
         go_wp2_with fail;go_ret;exact ⟨ret_bool (by rw [Hr.out,Hg2.out]; rfl),HE.out⟩
        all_goals
         clear Hk;have Hk:=dh hk;have Hr:=dh (show rightB g t=_ from right_held g (by have:=Hk.out; omega));clear hk;generalize hN:noNums t=N;generalize hB:noBrand t=B;generalize hA:noSuper t=A;generalize hO:noParts t=O;generalize hP:noRows t=P;generalize hQ:noOpq t=Q;generalize hR:brandR t=R;simp only [hN,hB,hA,hO,hP,hQ,hR] at Hr;rw [Hk.out] at b0;clear hN hB hA hO hP hQ hR;go_upto_region 21 with (fail);obtain ⟨V,hV⟩:∃ V,V=oneR g.length t:=⟨_,rfl⟩;rw [<- hV] at Hr;have HV:=dh hV;clear hV;go_cut [12] from 242 (fun v wx=>v=.bool V/\wx=W)
         case first =>
          by_cases h1:t.parts.length=1;rotate_left
          ·have h1b:((t.parts.length:Int)==1)=false:=beq_eq_false_iff_ne.2 (by omega);have Hv:=dh (show V=false by
            rw [HV.out]; unfold oneR;split
            ·rename_i p hp; rw [hp] at h1; exact absurd rfl h1
            ·rfl)
           clear h1;go_wp2_with fail;go_meet;exact ⟨by rw [Hv.out],rfl⟩
          have h1b:((t.parts.length:Int)==1)=true:=beq_iff_eq.2 (by omega);have h0l:0<t.parts.length:=by omega
          obtain ⟨b,off,hab,_,p0,p1,hs1,_,_⟩:=Parts.at (Parts.mono HE.out Hp.out) h0l;cases hab;have Hone:=dh (show V=((nth t.parts 0).name.size==0&&hasI g.length (nth t.parts 0).type) by
           rw [HV.out]; unfold oneR
           match hp:t.parts,h1 with
           | [p],_=>rfl)
          have hb:=empty_beq (nth t.parts 0).name;simp only [Nat.zero_mul,Nat.add_zero] at p0 p1;clear h1;cases h2:((nth t.parts 0).name.size==0)
          ·rw [h2] at hb;have Hv:=dh (show V=false by rw [Hone.out,h2]; rfl);go_wp2_with fail;go_meet;exact ⟨by rw [Hv.out],rfl⟩
          rw [h2] at hb;cases h3:hasI g.length (nth t.parts 0).type
          ·have Hv:=dh (show V=false by rw [Hone.out,h2,h3]; rfl);rcases Int.lt_or_le (nth t.parts 0).type 0 with h4 | h4
           ·clear h3;go_wp2_with fail;go_meet;exact ⟨by rw [Hv.out],rfl⟩
           ·have h5:=hasI_no h3 h4;clear h3;go_wp2_with fail;go_meet;exact ⟨by rw [Hv.out,decide_eq_false (by omega)],rfl⟩
          ·have h5:=hasI_iff.1 h3;have Hv:=dh (show V=true by rw [Hone.out,h2,h3]; rfl);clear h3;go_wp2_with fail;go_meet;exact ⟨by rw [Hv.out],rfl⟩
         case rest =>
          obtain ⟨rfl,rfl⟩:=hcut;clear HV;cases N
          ·go_wp2_with fail;go_ret;exact ⟨ret_bool (by rw [Hr.out]; rfl),HE.out⟩
          cases R
          ·go_wp2_with fail;go_ret;exact ⟨ret_bool (by rw [Hr.out]; rfl),HE.out⟩
          cases A
          ·go_wp2_with fail;go_ret;exact ⟨ret_bool (by rw [Hr.out]; rfl),HE.out⟩
          cases V
          ·go_wp2_with fail;go_ret;exact ⟨ret_bool (by rw [Hr.out]; rfl),HE.out⟩
          cases P
          ·go_wp2_with fail;go_ret;exact ⟨ret_bool (by rw [Hr.out]; rfl),HE.out⟩
          cases Q
          ·go_wp2_with fail;go_ret;exact ⟨ret_bool (by rw [Hr.out]; rfl),HE.out⟩
          go_wp2_with fail;go_ret;exact ⟨ret_bool (by rw [Hr.out]; rfl),HE.out⟩
end
section
open Go.RowKit Go.Proofs
theorem said_c (ga:Option Addr) (n gc:Nat) (g:List Ty) (t:Ty) (pa:Option Addr) (pl pc:Nat) (ma:Option Addr) (ml mc:Nat) (oa:Option Addr) (ol oc:Nat) (w:World) (hg:Graph w (.slice ga n gc) g)
  (hp:Parts w (.slice pa pl pc) t.parts) (hm:Meths w (.slice ma ml mc) t.methods) (ho:Overs w (.slice oa ol oc) t.overs) (hok:TyOk t) (hk:t.kind=10\/t.kind=12\/t.kind=13) :
  Calls Tryz.prog 124 #[.slice ga n gc,.agg (tyArr t pa pl pc ma ml mc oa ol oc)] w fun e w'=>e=.returned (.bool (rightB g t))/\Ext w w':=by
 have hgb:=(SlW.bound hg).2;have hpb:=(SlW.bound hp).2;have hmb:=(SlW.bound hm).2;have hob:=(SlW.bound ho).2;obtain rfl:=SlW.len hg;obtain rfl:=SlW.len hp;obtain rfl:=SlW.len hm;obtain rfl:=SlW.len ho;have Hg:=dh hg;have Hp:=dh hp;have Hm:=dh hm;have Ho:=dh ho;have Hok:=dh hok;have Hk:=dh hk;clear hg hp hm ho hok hk;have HE:=dh (Ext.alloc w (.cells (tyArr t pa t.parts.length pc ma t.methods.length mc oa t.overs.length oc) 50));have HB:=dh (show (w.alloc (.cells (tyArr t pa t.parts.length pc ma t.methods.length mc oa t.overs.length oc) 50)).heap[w.heap.size]? = some (.cells (tyArr t pa t.parts.length pc ma t.methods.length mc oa t.overs.length oc) 50 (0,0)) from heap_alloc_new _ _)
 go_enter Tryz.func124,Tryz.ntmps124
 go_upto_region 1 with (fail);obtain ⟨W,hW⟩:∃ W:World,W=w.alloc (.cells (tyArr t pa t.parts.length pc ma t.methods.length mc oa t.overs.length oc) 50):=⟨_,rfl⟩;rw [<- hW] at HE HB ⊢;clear hW;obtain ⟨b0,b1,b2,b3,b4,b5,b6,b7,b8,b9⟩:=tyBox_of HB.out;go_cut [5] from 242 (fun v wx=>v=.bool (noNums t)/\wx=W)
 case first =>
  cases h1:(t.low==0)
  ·have Hv:=dh (show noNums t=false by unfold noNums; rw [h1]; rfl);go_wp2_with fail;go_meet;exact ⟨by rw [Hv.out],rfl⟩
  ·cases h2:(t.high==0)
   ·have Hv:=dh (show noNums t=false by unfold noNums; rw [h1,h2]; rfl);go_wp2_with fail;go_meet;exact ⟨by rw [Hv.out],rfl⟩
   ·have Hv:=dh (show noNums t=true by unfold noNums; rw [h1,h2]; rfl);go_wp2_with fail;go_meet;exact ⟨by rw [Hv.out],rfl⟩
 case rest =>
  obtain ⟨rfl,rfl⟩:=hcut;rename World=>W;go_upto_region 2 with (fail);go_cut [6] from 242 (fun v wx=>v=.bool (noBrand t)/\wx=W)
  case first =>
   have hb:=empty_beq t.brand;cases h1:t.branded
   ·cases h2:(t.brand.size==0)
    ·rw [h2] at hb;have Hv:=dh (show noBrand t=false by unfold noBrand; rw [h1,h2]; rfl);go_wp2_with fail;go_meet;exact ⟨by rw [Hv.out],rfl⟩
    ·rw [h2] at hb;have Hv:=dh (show noBrand t=true by unfold noBrand; rw [h1,h2]; rfl);go_wp2_with fail;go_meet;exact ⟨by rw [Hv.out],rfl⟩
   ·clear hb;have Hv:=dh (show noBrand t=false by unfold noBrand; rw [h1]; rfl);go_wp2_with fail;go_meet;exact ⟨by rw [Hv.out],rfl⟩
  case rest =>
   obtain ⟨rfl,rfl⟩:=hcut;rename World=>W;go_upto_region 3 with (fail);go_cut [7] from 242 (fun v wx=>v=.bool (noSuper t)/\wx=W)
   case first =>
    go_wp2_with fail;go_meet;exact ⟨rfl,rfl⟩
   case rest =>
    obtain ⟨rfl,rfl⟩:=hcut;rename World=>W;go_upto_region 4 with (fail);go_cut [8] from 242 (fun v wx=>v=.bool (noParts t)/\wx=W)
    case first =>
     by_cases h:t.parts.length=0
     ·have hb:((t.parts.length:Int)==0)=true:=beq_iff_eq.2 (by omega);have Hv:=dh (show noParts t=true by unfold noParts; rw [h]; rfl);clear h;go_wp2_with fail;go_meet;exact ⟨by rw [Hv.out],rfl⟩
     ·have hb:((t.parts.length:Int)==0)=false:=beq_eq_false_iff_ne.2 (by omega);have Hv:=dh (show noParts t=false by unfold noParts; exact beq_eq_false_iff_ne.2 h);clear h;go_wp2_with fail;go_meet;exact ⟨by rw [Hv.out],rfl⟩
    case rest =>
     obtain ⟨rfl,rfl⟩:=hcut;rename World=>W;go_upto_region 5 with (fail);go_cut [9] from 242 (fun v wx=>v=.bool (noRows t)/\wx=W)
     case first =>
      by_cases h:t.methods.length=0;rotate_left
      ·have hb:((t.methods.length:Int)==0)=false:=beq_eq_false_iff_ne.2 (by omega);have Hv:=dh (show noRows t=false by unfold noRows; rw [beq_eq_false_iff_ne.2 h]; rfl);clear h;go_wp2_with fail;go_meet;exact ⟨by rw [Hv.out],rfl⟩
      have hb:((t.methods.length:Int)==0)=true:=beq_iff_eq.2 (by omega);by_cases h2:t.overs.length=0
      ·have hb2:((t.overs.length:Int)==0)=true:=beq_iff_eq.2 (by omega);have Hv:=dh (show noRows t=true by unfold noRows; rw [h,h2]; rfl);clear h h2;go_wp2_with fail;go_meet;exact ⟨by rw [Hv.out],rfl⟩
      ·have hb2:((t.overs.length:Int)==0)=false:=beq_eq_false_iff_ne.2 (by omega);have Hv:=dh (show noRows t=false by unfold noRows; rw [h,beq_eq_false_iff_ne.2 h2]; rfl);clear h h2;go_wp2_with fail;go_meet;exact ⟨by rw [Hv.out],rfl⟩
     case rest =>
      obtain ⟨rfl,rfl⟩:=hcut;rename World=>W;go_upto_region 6 with (fail);go_cut [10] from 242 (fun v wx=>v=.bool (noOpq t)/\wx=W)
      case first =>
       have hb:=empty_beq t.opq;cases h2:(t.opq.size==0)
       ·rw [h2] at hb;have Hv:=dh (show noOpq t=false from h2);go_wp2_with fail;go_meet;exact ⟨by rw [Hv.out],rfl⟩
       ·rw [h2] at hb;have Hv:=dh (show noOpq t=true from h2);go_wp2_with fail;go_meet;exact ⟨by rw [Hv.out],rfl⟩
      case rest =>
       obtain ⟨rfl,rfl⟩:=hcut;rename World=>W;go_upto_region 7 with (fail);go_cut [11] from 242 (fun v wx=>v=.bool (brandR t)/\wx=W)
       case first =>
        have hb:=empty_beq t.brand;have hbs:t.brand.size<=140737488351232:=by have:=Hok.out.b; unfold maxBytes at this; omega
        cases h0:isBrandB t.brand
        ·clear hb;have Hv:=dh (show brandR t=false by unfold brandR; rw [h0]; rfl);go_wp2_with (go_at_call 156; refine (isBrand156 _ hbs _).mono ?_; rintro e w' ⟨rfl,rfl⟩);go_meet;exact ⟨by rw [Hv.out],rfl⟩
        cases h1:t.branded
        ·cases h2:(t.brand.size==0)
         ·rw [h2] at hb;have Hv:=dh (show brandR t=false by unfold brandR; rw [h0,h1,h2]; rfl);go_wp2_with (go_at_call 156; refine (isBrand156 _ hbs _).mono ?_; rintro e w' ⟨rfl,rfl⟩);go_meet;exact ⟨by rw [Hv.out],rfl⟩
         ·rw [h2] at hb;have Hv:=dh (show brandR t=true by unfold brandR; rw [h0,h1,h2]; rfl);go_wp2_with (go_at_call 156; refine (isBrand156 _ hbs _).mono ?_; rintro e w' ⟨rfl,rfl⟩);go_meet;exact ⟨by rw [Hv.out],rfl⟩
        ·clear hb;have Hv:=dh (show brandR t=true by unfold brandR; rw [h0,h1]; rfl);go_wp2_with (go_at_call 156; refine (isBrand156 _ hbs _).mono ?_; rintro e w' ⟨rfl,rfl⟩);go_meet;exact ⟨by rw [Hv.out],rfl⟩
       case rest =>
        obtain ⟨rfl,rfl⟩:=hcut;rename World=>W;rcases Hk.out with hk | hk | hk
        ·clear Hk;have Hk:=dh hk;have Hr:=dh (show rightB g t=_ from right_record g Hk.out);clear hk;generalize hN:noNums t=N;generalize hB:noBrand t=B;generalize hA:noSuper t=A;generalize hO:noParts t=O;generalize hP:noRows t=P;generalize hQ:noOpq t=Q;generalize hR:brandR t=R;simp only [hN,hB,hA,hO,hP,hQ,hR] at Hr;rw [Hk.out] at b0;clear hN hB hA hO hP hQ hR;obtain ⟨V,hV⟩:∃ V,V=partsR g.length t.parts:=⟨_,rfl⟩;rw [<- hV] at Hr;have VE:=dh hV.symm;clear hV;cases N
         ·go_wp2_with fail;go_ret;exact ⟨ret_bool (by rw [Hr.out]; rfl),HE.out⟩
         cases R
         ·go_wp2_with fail;go_ret;exact ⟨ret_bool (by rw [Hr.out]; rfl),HE.out⟩
         cases A
         ·go_wp2_with fail;go_ret;exact ⟨ret_bool (by rw [Hr.out]; rfl),HE.out⟩
         by_cases hl:1<=t.parts.length;rotate_left
         ·have Hl:=dh (decide_eq_false hl);rw [Hl.out] at Hr;have hl2:t.parts.length<1:=by omega
          clear hl;go_wp2_with fail;go_ret;exact ⟨ret_bool (by rw [Hr.out]; rfl),HE.out⟩
         have Hl:=dh (decide_eq_true hl);rw [Hl.out] at Hr;go_wp2_with fail;refine (parts157 ga g.length gc (by omega) pa t.parts.length pc t.parts _ (Parts.mono HE.out Hp.out)).mono ?_;rintro e w2 ⟨rfl,hE⟩;rw [VE.out];have HE2:=dh (HE.out.trans hE);have b3:=hE.cell b3;have b4:=hE.cell b4;have b5:=hE.cell b5;have b6:=hE.cell b6;have b7:=hE.cell b7;have b8:=hE.cell b8;have b9:=hE.cell b9;have b0:=hE.cell b0;have b1:=hE.cell b1;have b2:=hE.cell b2;clear hE;cases V
         ·go_wp2_with fail;go_ret;exact ⟨ret_bool (by rw [Hr.out]; rfl),HE2.out⟩
         cases P
         ·go_wp2_with fail;go_ret;exact ⟨ret_bool (by rw [Hr.out]; rfl),HE2.out⟩
         cases Q
         ·go_wp2_with fail;go_ret;exact ⟨ret_bool (by rw [Hr.out]; rfl),HE2.out⟩
         go_wp2_with fail;go_ret;exact ⟨ret_bool (by rw [Hr.out]; rfl),HE2.out⟩
        ·clear Hk;have Hk:=dh hk;have Hr:=dh (show rightB g t=_ from right_object g Hk.out);clear hk;generalize hN:noNums t=N;generalize hB:noBrand t=B;generalize hA:noSuper t=A;generalize hO:noParts t=O;generalize hP:noRows t=P;generalize hQ:noOpq t=Q;generalize hR:brandR t=R;simp only [hN,hB,hA,hO,hP,hQ,hR] at Hr;rw [Hk.out] at b0;clear hN hB hA hO hP hQ hR;obtain ⟨V,hV⟩:∃ V,V=superR g t:=⟨_,rfl⟩;rw [<- hV] at Hr;have VE:=dh hV.symm;clear hV;obtain ⟨V2,hV2⟩:∃ V2,V2=partsR g.length t.parts:=⟨_,rfl⟩;rw [<- hV2] at Hr;have V2E:=dh hV2.symm;clear hV2;obtain ⟨V3,hV3⟩:∃ V3,V3=methodsR g.length t:=⟨_,rfl⟩;rw [<- hV3] at Hr;have V3E:=dh hV3.symm;clear hV3;cases N
         ·go_wp2_with fail;go_ret;exact ⟨ret_bool (by rw [Hr.out]; rfl),HE.out⟩
         cases R
         ·go_wp2_with fail;go_ret;exact ⟨ret_bool (by rw [Hr.out]; rfl),HE.out⟩
         have hcall:=super158 ga g.length gc g t pa t.parts.length pc ma t.methods.length mc oa t.overs.length oc W (Graph.mono HE.out Hg.out) Hok.out.s0 Hok.out.s1;unfold tyArr at hcall;rw [Hk.out] at hcall;go_wp2_with fail;refine hcall.mono ?_;clear hcall;rintro e w2 ⟨rfl,hE⟩;rw [VE.out];have HE2:=dh (HE.out.trans hE);have b3:=hE.cell b3;have b4:=hE.cell b4;have b5:=hE.cell b5;have b6:=hE.cell b6;have b7:=hE.cell b7;have b8:=hE.cell b8;have b9:=hE.cell b9;have b0:=hE.cell b0;have b1:=hE.cell b1;have b2:=hE.cell b2;clear hE;cases V
         ·go_wp2_with fail;go_ret;exact ⟨ret_bool (by rw [Hr.out]; rfl),HE2.out⟩
         go_wp2_with fail;refine (parts157 ga g.length gc (by omega) pa t.parts.length pc t.parts _ (Parts.mono HE2.out Hp.out)).mono ?_;rintro e w3 ⟨rfl,hE⟩;rw [V2E.out];have HE3:=dh (HE2.out.trans hE);have b3:=hE.cell b3;have b4:=hE.cell b4;have b5:=hE.cell b5;have b6:=hE.cell b6;have b7:=hE.cell b7;have b8:=hE.cell b8;have b9:=hE.cell b9;have b0:=hE.cell b0;have b1:=hE.cell b1;have b2:=hE.cell b2;clear hE;cases V2
         ·go_wp2_with fail;go_ret;exact ⟨ret_bool (by rw [Hr.out]; rfl),HE3.out⟩
         have hcall:=methods159 ga g.length gc (by omega) t pa t.parts.length pc ma t.methods.length mc oa t.overs.length oc w3 (Meths.mono HE3.out Hm.out) (Overs.mono HE3.out Ho.out);unfold tyArr at hcall;rw [Hk.out] at hcall;go_wp2_with fail;refine hcall.mono ?_;clear hcall;rintro e w4 ⟨rfl,hE⟩;rw [V3E.out];have HE4:=dh (HE3.out.trans hE);have b3:=hE.cell b3;have b4:=hE.cell b4;have b5:=hE.cell b5;have b6:=hE.cell b6;have b7:=hE.cell b7;have b8:=hE.cell b8;have b9:=hE.cell b9;have b0:=hE.cell b0;have b1:=hE.cell b1;have b2:=hE.cell b2;clear hE;cases V3
         ·go_wp2_with fail;go_ret;exact ⟨ret_bool (by rw [Hr.out]; rfl),HE4.out⟩
         cases Q
         ·go_wp2_with fail;go_ret;exact ⟨ret_bool (by rw [Hr.out]; rfl),HE4.out⟩
         go_wp2_with fail;go_ret;exact ⟨ret_bool (by rw [Hr.out]; rfl),HE4.out⟩
        ·clear Hk;have Hk:=dh hk;have Hr:=dh (show rightB g t=_ from right_opaque g Hk.out);clear hk;generalize hN:noNums t=N;generalize hB:noBrand t=B;generalize hA:noSuper t=A;generalize hO:noParts t=O;generalize hP:noRows t=P;generalize hQ:noOpq t=Q;generalize hR:brandR t=R;simp only [hN,hB,hA,hO,hP,hQ,hR] at Hr;rw [Hk.out] at b0;clear hN hB hA hO hP hQ hR;have hos:t.opq.size<=140737488351232:=by have:=Hok.out.o; unfold maxBytes at this; omega
         obtain ⟨V,hV⟩:∃ V,V=superR g t:=⟨_,rfl⟩;rw [<- hV] at Hr;have VE:=dh hV.symm;clear hV;obtain ⟨Y,hY⟩:∃ Y,Y=isSymbolB t.opq:=⟨_,rfl⟩;rw [<- hY] at Hr;have YE:=dh hY.symm;clear hY;cases N
         ·go_wp2_with fail;go_ret;exact ⟨ret_bool (by rw [Hr.out]; rfl),HE.out⟩
         cases B
         ·go_wp2_with fail;go_ret;exact ⟨ret_bool (by rw [Hr.out]; rfl),HE.out⟩
         have hcall:=super158 ga g.length gc g t pa t.parts.length pc ma t.methods.length mc oa t.overs.length oc W (Graph.mono HE.out Hg.out) Hok.out.s0 Hok.out.s1;unfold tyArr at hcall;rw [Hk.out] at hcall;go_wp2_with fail;refine hcall.mono ?_;clear hcall;rintro e w2 ⟨rfl,hE⟩;rw [VE.out];have HE2:=dh (HE.out.trans hE);have b3:=hE.cell b3;have b4:=hE.cell b4;have b5:=hE.cell b5;have b6:=hE.cell b6;have b7:=hE.cell b7;have b8:=hE.cell b8;have b9:=hE.cell b9;have b0:=hE.cell b0;have b1:=hE.cell b1;have b2:=hE.cell b2;clear hE;cases V
         ·go_wp2_with fail;go_ret;exact ⟨ret_bool (by rw [Hr.out]; rfl),HE2.out⟩
         cases O
         ·go_wp2_with fail;go_ret;exact ⟨ret_bool (by rw [Hr.out]; rfl),HE2.out⟩
         cases P
         ·go_wp2_with fail;go_ret;exact ⟨ret_bool (by rw [Hr.out]; rfl),HE2.out⟩
         go_wp2_with fail;refine (isSymbol90 _ hos _).mono ?_;rintro e w' ⟨rfl,rfl⟩;rw [YE.out];cases Y
         ·go_wp2_with fail;go_ret;exact ⟨ret_bool (by rw [Hr.out]; rfl),HE2.out⟩
         go_wp2_with fail;go_ret;exact ⟨ret_bool (by rw [Hr.out]; rfl),HE2.out⟩
end
section
open Go.RowKit Go.Proofs
def SaidAt (t:Ty):Prop:=∀ (ga:Option Addr) (n gc:Nat) (g:List Ty) (pa:Option Addr) (pl pc:Nat) (ma:Option Addr) (ml mc:Nat) (oa:Option Addr) (ol oc:Nat) (w:World),Graph w (.slice ga n gc) g ->
  Parts w (.slice pa pl pc) t.parts->Meths w (.slice ma ml mc) t.methods->Overs w (.slice oa ol oc) t.overs->TyOk t ->
  Calls Tryz.prog 124 #[.slice ga n gc,.agg (tyArr t pa pl pc ma ml mc oa ol oc)] w fun e w'=>e=.returned (.bool (rightB g t))/\Ext w w'
theorem said_known {t:Ty} (h:1<=t.kind/\t.kind<=13):SaidAt t:=fun ga n gc g pa pl pc ma ml mc oa ol oc w hg hp hm ho hok=>by
 rcases (show t.kind=1\/t.kind=2\/t.kind=3\/t.kind=4\/t.kind=5\/t.kind=6\/t.kind=7\/t.kind=8\/t.kind=9\/t.kind=10\/t.kind=11\/t.kind=12\/t.kind=13 by omega) with k | k | k | k | k | k | k | k | k | k | k | k | k
 ·exact said_a ga n gc g t pa pl pc ma ml mc oa ol oc w hg hp hm ho hok (by omega)
 ·exact said_a ga n gc g t pa pl pc ma ml mc oa ol oc w hg hp hm ho hok (by omega)
 ·exact said_b ga n gc g t pa pl pc ma ml mc oa ol oc w hg hp hm ho hok (by omega)
 ·exact said_a ga n gc g t pa pl pc ma ml mc oa ol oc w hg hp hm ho hok (by omega)
 ·exact said_a ga n gc g t pa pl pc ma ml mc oa ol oc w hg hp hm ho hok (by omega)
 ·exact said_a ga n gc g t pa pl pc ma ml mc oa ol oc w hg hp hm ho hok (by omega)
 ·exact said_a ga n gc g t pa pl pc ma ml mc oa ol oc w hg hp hm ho hok (by omega)
 ·exact said_a ga n gc g t pa pl pc ma ml mc oa ol oc w hg hp hm ho hok (by omega)
 ·exact said_b ga n gc g t pa pl pc ma ml mc oa ol oc w hg hp hm ho hok (by omega)
 ·exact said_c ga n gc g t pa pl pc ma ml mc oa ol oc w hg hp hm ho hok (by omega)
 ·exact said_b ga n gc g t pa pl pc ma ml mc oa ol oc w hg hp hm ho hok (by omega)
 ·exact said_c ga n gc g t pa pl pc ma ml mc oa ol oc w hg hp hm ho hok (by omega)
 ·exact said_c ga n gc g t pa pl pc ma ml mc oa ol oc w hg hp hm ho hok (by omega)
end
section
open Go.RowKit Go.Proofs
theorem said_other (ga:Option Addr) (n gc:Nat) (g:List Ty) (t:Ty) (pa:Option Addr) (pl pc:Nat) (ma:Option Addr) (ml mc:Nat) (oa:Option Addr) (ol oc:Nat) (w:World) (hg:Graph w (.slice ga n gc) g)
  (hp:Parts w (.slice pa pl pc) t.parts) (hm:Meths w (.slice ma ml mc) t.methods) (ho:Overs w (.slice oa ol oc) t.overs) (hok:TyOk t) (hk:¬ (1<=t.kind/\t.kind<=13)) :
  Calls Tryz.prog 124 #[.slice ga n gc,.agg (tyArr t pa pl pc ma ml mc oa ol oc)] w fun e w'=>e=.returned (.bool (rightB g t))/\Ext w w':=by
 have hgb:=(SlW.bound hg).2;have hpb:=(SlW.bound hp).2;have hmb:=(SlW.bound hm).2;have hob:=(SlW.bound ho).2;obtain rfl:=SlW.len hg;obtain rfl:=SlW.len hp;obtain rfl:=SlW.len hm;obtain rfl:=SlW.len ho;have Hg:=dh hg;have Hp:=dh hp;have Hm:=dh hm;have Ho:=dh ho;have Hok:=dh hok;have Hk:=dh hk;have Hr:=dh (right_none g hk);clear hg hp hm ho hok hk;have HE:=dh (Ext.alloc w (.cells (tyArr t pa t.parts.length pc ma t.methods.length mc oa t.overs.length oc) 50));have HB:=dh (show (w.alloc (.cells (tyArr t pa t.parts.length pc ma t.methods.length mc oa t.overs.length oc) 50)).heap[w.heap.size]? = some (.cells (tyArr t pa t.parts.length pc ma t.methods.length mc oa t.overs.length oc) 50 (0,0)) from heap_alloc_new _ _)
 go_enter Tryz.func124,Tryz.ntmps124
 go_upto_region 1 with (fail);obtain ⟨W,hW⟩:∃ W:World,W=w.alloc (.cells (tyArr t pa t.parts.length pc ma t.methods.length mc oa t.overs.length oc) 50):=⟨_,rfl⟩;rw [<- hW] at HE HB ⊢;clear hW;obtain ⟨b0,b1,b2,b3,b4,b5,b6,b7,b8,b9⟩:=tyBox_of HB.out;go_cut [5] from 242 (fun v wx=>v=.bool (noNums t)/\wx=W)
 case first =>
  cases h1:(t.low==0)
  ·have Hv:=dh (show noNums t=false by unfold noNums; rw [h1]; rfl);go_wp2_with fail;go_meet;exact ⟨by rw [Hv.out],rfl⟩
  ·cases h2:(t.high==0)
   ·have Hv:=dh (show noNums t=false by unfold noNums; rw [h1,h2]; rfl);go_wp2_with fail;go_meet;exact ⟨by rw [Hv.out],rfl⟩
   ·have Hv:=dh (show noNums t=true by unfold noNums; rw [h1,h2]; rfl);go_wp2_with fail;go_meet;exact ⟨by rw [Hv.out],rfl⟩
 case rest =>
  obtain ⟨rfl,rfl⟩:=hcut;rename World=>W;go_upto_region 2 with (fail);go_cut [6] from 242 (fun v wx=>v=.bool (noBrand t)/\wx=W)
  case first =>
   have hb:=empty_beq t.brand;cases h1:t.branded
   ·cases h2:(t.brand.size==0)
    ·rw [h2] at hb;have Hv:=dh (show noBrand t=false by unfold noBrand; rw [h1,h2]; rfl);go_wp2_with fail;go_meet;exact ⟨by rw [Hv.out],rfl⟩
    ·rw [h2] at hb;have Hv:=dh (show noBrand t=true by unfold noBrand; rw [h1,h2]; rfl);go_wp2_with fail;go_meet;exact ⟨by rw [Hv.out],rfl⟩
   ·clear hb;have Hv:=dh (show noBrand t=false by unfold noBrand; rw [h1]; rfl);go_wp2_with fail;go_meet;exact ⟨by rw [Hv.out],rfl⟩
  case rest =>
   obtain ⟨rfl,rfl⟩:=hcut;rename World=>W;go_upto_region 3 with (fail);go_cut [7] from 242 (fun v wx=>v=.bool (noSuper t)/\wx=W)
   case first =>
    go_wp2_with fail;go_meet;exact ⟨rfl,rfl⟩
   case rest =>
    obtain ⟨rfl,rfl⟩:=hcut;rename World=>W;go_upto_region 4 with (fail);go_cut [8] from 242 (fun v wx=>v=.bool (noParts t)/\wx=W)
    case first =>
     by_cases h:t.parts.length=0
     ·have hb:((t.parts.length:Int)==0)=true:=beq_iff_eq.2 (by omega);have Hv:=dh (show noParts t=true by unfold noParts; rw [h]; rfl);clear h;go_wp2_with fail;go_meet;exact ⟨by rw [Hv.out],rfl⟩
     ·have hb:((t.parts.length:Int)==0)=false:=beq_eq_false_iff_ne.2 (by omega);have Hv:=dh (show noParts t=false by unfold noParts; exact beq_eq_false_iff_ne.2 h);clear h;go_wp2_with fail;go_meet;exact ⟨by rw [Hv.out],rfl⟩
    case rest =>
     obtain ⟨rfl,rfl⟩:=hcut;rename World=>W;go_upto_region 5 with (fail);go_cut [9] from 242 (fun v wx=>v=.bool (noRows t)/\wx=W)
     case first =>
      by_cases h:t.methods.length=0;rotate_left
      ·have hb:((t.methods.length:Int)==0)=false:=beq_eq_false_iff_ne.2 (by omega);have Hv:=dh (show noRows t=false by unfold noRows; rw [beq_eq_false_iff_ne.2 h]; rfl);clear h;go_wp2_with fail;go_meet;exact ⟨by rw [Hv.out],rfl⟩
      have hb:((t.methods.length:Int)==0)=true:=beq_iff_eq.2 (by omega);by_cases h2:t.overs.length=0
      ·have hb2:((t.overs.length:Int)==0)=true:=beq_iff_eq.2 (by omega);have Hv:=dh (show noRows t=true by unfold noRows; rw [h,h2]; rfl);clear h h2;go_wp2_with fail;go_meet;exact ⟨by rw [Hv.out],rfl⟩
      ·have hb2:((t.overs.length:Int)==0)=false:=beq_eq_false_iff_ne.2 (by omega);have Hv:=dh (show noRows t=false by unfold noRows; rw [h,beq_eq_false_iff_ne.2 h2]; rfl);clear h h2;go_wp2_with fail;go_meet;exact ⟨by rw [Hv.out],rfl⟩
     case rest =>
      obtain ⟨rfl,rfl⟩:=hcut;rename World=>W;go_upto_region 6 with (fail);go_cut [10] from 242 (fun v wx=>v=.bool (noOpq t)/\wx=W)
      case first =>
       have hb:=empty_beq t.opq;cases h2:(t.opq.size==0)
       ·rw [h2] at hb;have Hv:=dh (show noOpq t=false from h2);go_wp2_with fail;go_meet;exact ⟨by rw [Hv.out],rfl⟩
       ·rw [h2] at hb;have Hv:=dh (show noOpq t=true from h2);go_wp2_with fail;go_meet;exact ⟨by rw [Hv.out],rfl⟩
      case rest =>
       obtain ⟨rfl,rfl⟩:=hcut;rename World=>W;go_upto_region 7 with (fail);go_cut [11] from 242 (fun v wx=>v=.bool (brandR t)/\wx=W)
       case first =>
        have hb:=empty_beq t.brand;have hbs:t.brand.size<=140737488351232:=by have:=Hok.out.b; unfold maxBytes at this; omega
        cases h0:isBrandB t.brand
        ·clear hb;have Hv:=dh (show brandR t=false by unfold brandR; rw [h0]; rfl);go_wp2_with (go_at_call 156; refine (isBrand156 _ hbs _).mono ?_; rintro e w' ⟨rfl,rfl⟩);go_meet;exact ⟨by rw [Hv.out],rfl⟩
        cases h1:t.branded
        ·cases h2:(t.brand.size==0)
         ·rw [h2] at hb;have Hv:=dh (show brandR t=false by unfold brandR; rw [h0,h1,h2]; rfl);go_wp2_with (go_at_call 156; refine (isBrand156 _ hbs _).mono ?_; rintro e w' ⟨rfl,rfl⟩);go_meet;exact ⟨by rw [Hv.out],rfl⟩
         ·rw [h2] at hb;have Hv:=dh (show brandR t=true by unfold brandR; rw [h0,h1,h2]; rfl);go_wp2_with (go_at_call 156; refine (isBrand156 _ hbs _).mono ?_; rintro e w' ⟨rfl,rfl⟩);go_meet;exact ⟨by rw [Hv.out],rfl⟩
        ·clear hb;have Hv:=dh (show brandR t=true by unfold brandR; rw [h0,h1]; rfl);go_wp2_with (go_at_call 156; refine (isBrand156 _ hbs _).mono ?_; rintro e w' ⟨rfl,rfl⟩);go_meet;exact ⟨by rw [Hv.out],rfl⟩
       case rest =>
        obtain ⟨rfl,rfl⟩:=hcut;rename World=>W;have e1:(t.kind==1)=false:=beq_eq_false_iff_ne.2 (by have:=Hk.out; omega);have e2:(t.kind==2)=false:=beq_eq_false_iff_ne.2 (by have:=Hk.out; omega);have e3:(t.kind==3)=false:=beq_eq_false_iff_ne.2 (by have:=Hk.out; omega);have e4:(t.kind==4)=false:=beq_eq_false_iff_ne.2 (by have:=Hk.out; omega);have e5:(t.kind==5)=false:=beq_eq_false_iff_ne.2 (by have:=Hk.out; omega);have e6:(t.kind==6)=false:=beq_eq_false_iff_ne.2 (by have:=Hk.out; omega);have e7:(t.kind==7)=false:=beq_eq_false_iff_ne.2 (by have:=Hk.out; omega);have e8:(t.kind==8)=false:=beq_eq_false_iff_ne.2 (by have:=Hk.out; omega);have e9:(t.kind==9)=false:=beq_eq_false_iff_ne.2 (by have:=Hk.out; omega);have e10:(t.kind==10)=false:=beq_eq_false_iff_ne.2 (by have:=Hk.out; omega);have e11:(t.kind==11)=false:=beq_eq_false_iff_ne.2 (by have:=Hk.out; omega);have e12:(t.kind==12)=false:=beq_eq_false_iff_ne.2 (by have:=Hk.out; omega);have e13:(t.kind==13)=false:=beq_eq_false_iff_ne.2 (by have:=Hk.out; omega);generalize noNums t=N;generalize noBrand t=B;generalize noSuper t=A;generalize noParts t=O;generalize noRows t=P;generalize noOpq t=Q;generalize brandR t=R;go_wp2_with fail;go_ret;exact ⟨ret_bool Hr.out.symm,HE.out⟩
theorem said124 (t:Ty):SaidAt t:=fun ga n gc g pa pl pc ma ml mc oa ol oc w hg hp hm ho hok=>by
 by_cases h:1<=t.kind/\t.kind<=13
 ·exact said_known h ga n gc g pa pl pc ma ml mc oa ol oc w hg hp hm ho hok
 ·exact said_other ga n gc g t pa pl pc ma ml mc oa ol oc w hg hp hm ho hok h
end
section
open Go.RowKit Go.Proofs Go.Shelf
theorem deriveBad38 (vb:Nat) (g:List Ty) (C:Nat->Nat) (rs:List Reveal) (S:List Nat) (gv cv rv av:Value) (w:World) (hv:EnvW w vb g C rs S gv cv rv av)
  (hn:g.length<=400) (a b:Int) (hx:-9223372036854775808<=a/\a<=9223372036854775807) (hy:-9223372036854775808<=b/\b<=9223372036854775807) (h0:askedR g.length [a,b]=1) :
  Calls Tryz.prog 38 #[.pointer (some ⟨vb,0,none⟩),.int .i64 a,.int .i64 b] w fun e w'=>e=.returned (.tuple #[.slice none 0 0,.bool false,.int .i64 1])/\Ext w w':=by
 obtain ⟨ga,gc,rfl,_⟩:=id hv.gr;obtain ⟨w0,hw0⟩:∃ w0:World,w0=w.alloc (.cells #[.int .i64 b] 3):=⟨_,rfl⟩;have hE0:Ext w w0:=by rw [hw0]; exact Ext.alloc _ _
 have hcall:=dh (asked47 vb ga g.length gc hn _ 2 2 [a,b] _ ((hE0.trans (Ext.alloc _ _)).cell hv.c0) (ints_two w0 a b hx hy));rw [h0] at hcall;rw [hw0,World.size_alloc] at hcall;have HE0:=dh (hE0.trans (Ext.alloc w0 (.cells #[.int .i64 a,.int .i64 b] 3)));rw [hw0] at HE0;clear h0 hE0 hw0 hv
 go_enter Tryz.func38,Tryz.ntmps38
 go_wp2_with fail
 go_step3
 go_wp2_with fail;refine hcall.out.mono ?_;rintro e w1 ⟨rfl,hE⟩;have HE:=dh (HE0.out.trans hE); clear hE;go_wp2_with fail;simp only [Exit.noGoto];go_ret3;exact ⟨rfl,HE.out⟩
theorem checkDeriveBad36 (vb:Nat) (g:List Ty) (C:Nat->Nat) (rs:List Reveal) (S:List Nat) (gv cv rv av:Value) (w:World) (hv:EnvW w vb g C rs S gv cv rv av) (x:Option Addr) (n c:Nat)
  (hn:g.length<=400) (a b:Int) (hx:-9223372036854775808<=a/\a<=9223372036854775807) (hy:-9223372036854775808<=b/\b<=9223372036854775807) (h0:askedR g.length [a,b]=1) :
  Calls Tryz.prog 36 #[.pointer (some ⟨vb,0,none⟩),.int .i64 a,.int .i64 b,.slice x n c] w fun e w'=>e=.returned (.tuple #[.bool false,.int .i64 1])/\Ext w w':=by
 obtain ⟨ga,gc,rfl,_⟩:=id hv.gr;obtain ⟨w0,hw0⟩:∃ w0:World,w0=w.alloc (.cells #[.int .i64 a] 3):=⟨_,rfl⟩;have hE0:Ext w w0:=by rw [hw0]; exact Ext.alloc _ _
 have hcall:=dh (asked47 vb ga g.length gc hn _ 2 2 [a,b] _ ((hE0.trans (Ext.alloc _ _)).cell hv.c0) (ints_two w0 a b hx hy));rw [h0] at hcall;rw [hw0,World.size_alloc] at hcall;have HE0:=dh (hE0.trans (Ext.alloc w0 (.cells #[.int .i64 a,.int .i64 b] 3)));rw [hw0] at HE0;clear h0 hE0 hw0 hv
 go_enter Tryz.func36,Tryz.ntmps36
 go_wp2_with fail
 go_step3
 go_wp2_with fail;refine hcall.out.mono ?_;rintro e w1 ⟨rfl,hE⟩;have HE:=dh (HE0.out.trans hE); clear hE;go_wp2_with fail;simp only [Exit.noGoto];go_ret2;exact ⟨rfl,HE.out⟩
end
end Go.Proofs.YtjffkeoajkhbmaaGreat
