/- The reference's Field and Method. The reference's ends, Line and Assign. -/
import Derived.StillTactics
import Derived.Test.YtjffkeoajkhbmaaGreatOW40
namespace Go.Proofs.YtjffkeoajkhbmaaGreat
set_option linter.unusedSimpArgs false
set_option linter.unusedVariables false
set_option maxRecDepth 100000
set_option maxHeartbeats 8000000
section
open Go.RowKit Go.Proofs Go.Shelf
theorem beqc {a b:BA} {c:Bool} (h:(a==b)=c):(b==a)=c:=by rw [<- h]; exact BEq.comm
theorem firstF_at {g:List Ty} {N:Ty->List BA} {s:BA} {L:List Nat} {k u:Nat} {r:Int × Int × Int} (hlt:k<L.length) (hu:u=nth L k) (h:firstF g N s L=firstF g N s (L.drop k))
  (hr:(0<=idxI (fun y=>s==y) (N (nth g u))/\r=((u:Int),idxI (fun y=>s==y) (N (nth g u)),0))\/(¬ 0<=idxI (fun y=>s==y) (N (nth g u))/\r=firstF g N s (L.drop (k+1)))):firstF g N s L=r:=by
 rw [h,firstF_drop hlt,<- hu];rcases hr with ⟨h1,rfl⟩ | ⟨h1,rfl⟩
 ·rw [if_pos h1]
 ·rw [if_neg h1]
theorem line_ok {g:List Ty} {rs:List Reveal} (h0:openE g rs=0) {x:Nat} (hx:x<g.length):OutOk g.length (lineL g rs x):=by
 obtain ⟨_,_,_,hr,hbad⟩:=opens h0;exact (lineV_keeps (lineS_lt hr (fun i hi=>rev_in (hbad i hi))) (g.length+1) [] x ⟨List.nodup_nil,fun x hx=>by cases hx⟩ hx).1
theorem line60_of {W w:World} {vb:Nat} {g:List Ty} {rs:List Reveal} (h:EnvG W vb g rs) (hE:Ext W w) {x:Nat} (hx:x<g.length) :
  Calls Tryz.prog 60 #[.pointer (some ⟨vb,0,none⟩),.slice none 0 0,.int .i64 x] w fun e w'=>∃ la lc,e=.returned (.slice la (lineL g rs x).length lc)/\Ints w' (.slice la (lineL g rs x).length lc) (numsOf (lineL g rs x))/\Ext w w':=by
 obtain ⟨hop,D,hv,hD⟩:=h;obtain ⟨_,h400,h60,hr,hbad⟩:=opens hop;have hok:=line_ok hop hx;have hl:=hok.le;refine (line60 (hv.1.mono hE) h400 h60 hr (fun i hi=>rev_in (hbad i hi)) (g.length+1) [] x (.slice none 0 0) w ⟨Ext.refl _,OwnL.nil _⟩ ⟨List.nodup_nil,fun x hx=>by cases hx⟩ hx (by simp)).mono ?_;rintro e w' ⟨v,rfl,hR,-⟩;have hI:Ints w' v (numsOf (lineL g rs x)):=hR.own.slw (by
  show (numsOf (lineL g rs x)).length*_<=_
  unfold numsOf maxBytes; rw [List.length_map]; omega)
 obtain ⟨la,lc,rfl,_⟩:=id hI;have hll:(numsOf (lineL g rs x)).length=(lineL g rs x).length:=by unfold numsOf; simp
 rw [hll] at hI;rw [hll];exact ⟨la,lc,rfl,hI,hR.ext⟩
theorem fieldG {W:World} {vb:Nat} {g:List Ty} {rs:List Reveal} (h:EnvG W vb g rs) (a:Int) (hx:I64 a) (s:BA) (hs:s.size<=140737488351232):Calls Tryz.prog 32 #[.pointer (some ⟨vb,0,none⟩),.int .i64 a,.string s] W fun e w' =>
  e=.returned (.tuple #[.int .i64 (fieldQ g rs a s).1,.int .i64 (fieldQ g rs a s).2.1,.int .i64 (fieldQ g rs a s).2.2])/\Ext W w':=by
 obtain ⟨hop,D,hv,hD⟩:=id h;obtain ⟨_,h400,_,_,_⟩:=opens hop;obtain ⟨ga,gc,h0⟩:=hv.graph;have hcall:=dh (askedR49 vb ga g.length gc h400 _ 1 1 [a] _ ((Ext.alloc _ _).cell h0) (ints_one W a hx));have Hv:=dh hv.1;have Hop:=dh hop;have Hl:=dh (fun (x:Nat) (hx:x<g.length) (w:World) (hE:Ext W w)=>line60_of h hE hx);obtain ⟨q1,hq1⟩:∃ q,q=(fieldQ g rs a s).1:=⟨_,rfl⟩;obtain ⟨q2,hq2⟩:∃ q,q=(fieldQ g rs a s).2.1:=⟨_,rfl⟩;obtain ⟨q3,hq3⟩:∃ q,q=(fieldQ g rs a s).2.2:=⟨_,rfl⟩;rw [<- hq1,<- hq2,<- hq3];have Hq:=dh (show ∀ x y z,fieldQ g rs a s=(x,y,z)->q1=x/\q2=y/\q3=z from fun x y z h=>by rw [hq1,hq2,hq3,h]; exact ⟨rfl,rfl,rfl⟩);obtain ⟨er,her⟩:∃ er,er=askedR g.length [a]:=⟨_,rfl⟩;rw [<- her] at hcall;have Her:=dh her;clear hv hD h hop hq1 hq2 hq3 her
 go_enter Tryz.func32,Tryz.ntmps32
 go_wp2_with fail;refine hcall.out.mono ?_;rintro e w1 ⟨rfl,hE⟩;have HE:=dh ((Ext.alloc _ _).trans hE);clear hE hcall h0;have h01:er=0\/er=1:=by rw [Her.out]; exact asked01 _ _
 by_cases h1:er=1
 ·have hq:=Hq.out 0 0 1 (by unfold fieldQ; rw [if_neg (by rw [<- Her.out,h1]; decide)]);have Hr:=dh hq;subst h1;clear h01 hq;go_wp2_with fail;go_ret3;exact ⟨by rw [Hr.out.1,Hr.out.2.1,Hr.out.2.2]; rfl,HE.out⟩
 have h2:er=0:=by omega
 obtain ⟨x,hax,hx1⟩:∃ x:Nat,a=x/\x<g.length:=by
  rcases askedR_cases g.length [a] with ⟨_,hin⟩ | ⟨h3,_⟩
  ·have:=hin a (by simp);exact ⟨a.toNat,by omega,by omega⟩
  ·rw [<- Her.out] at h3; exact absurd h3 h1
 subst hax;obtain ⟨L,hLL⟩:∃ L,L=lineL g rs x:=⟨_,rfl⟩;have Hq2:=dh (show ∀ r,firstF g fieldN s L=r->fieldQ g rs x s=r from fun r h=>by
  unfold fieldQ;rw [if_pos (by rw [<- Her.out,h2]),Int.toNat_natCast,<- hLL,h])
 clear h01 h1;subst h2;go_wp2_with fail;have hcl:=Hl.out x hx1 w1 HE.out;have hok:=line_ok Hop.out hx1;rw [<- hLL] at hcl hok;refine hcl.mono ?_;rintro e w2 ⟨la,lc,rfl,hI,hE⟩;have hln:=hok.le;have HE2:=dh (HE.out.trans hE);have HI:=dh hI;have Hok:=dh hok;clear hcl hE hI hok hLL;go_upto_region 6 with (fail);go_loopw [11,12,13] (fun i _ _ wr=>∃ k:Nat,k<=L.length/\i=.int .i64 k/\Hid (Ext w2 wr/\firstF g fieldN s L=firstF g fieldN s (L.drop k))) (fun i _ _ _=>L.length-(intOf i).toNat)
 case atStart=>exact ⟨0,Nat.zero_le _,rfl,dh ⟨Ext.refl _,rfl⟩⟩
 case round =>
  obtain ⟨k,hk,rfl,hH⟩:=hrel;by_cases hlt:k<L.length
  ·obtain ⟨lb,loff,hab,_,le,-⟩:=Ints.at (Ints.mono hH.out.1 HI.out) (i:=k) (by simpa [numsOf] using hlt);cases hab;unfold numsOf at le;rw [nth_mapI _ hlt] at le;obtain ⟨u,hu⟩:∃ u,u=nth L k:=⟨_,rfl⟩;have hun:u<g.length:=by rw [hu]; exact Hok.out.lt _ (nth_mem hlt)
   rw [<- hu] at le;have Hu:=dh hu;have Hle:=dh le;clear hu;obtain ⟨_,_,_,_,_,_,c0,_,_,hG,_,_⟩:=Hv.out.mono (HE2.out.trans hH.out.1);obtain ⟨gb,gof,pa,pl,pc,ma,ml,mc,oa,ol,oc,hab,hbl,hT⟩:=Graph.at hG hun;cases hab;obtain ⟨y,hy⟩:∃ y,y=nth g u:=⟨_,rfl⟩;rw [<- hy] at hT;have HY:=dh hy;obtain ⟨d0,d1,d2,d3,d4,d5,d6,d7,d8,d9,hps,hms,_,_⟩:=hT;have Hps:=dh hps;have hpsb:=(SlW.bound hps).2;obtain rfl:=SlW.len hps;clear hG hy hps hms;go_upto_region 8 with (fail);refine Zr 11 ?_;change wpE _ _ _ _ _ _ _ _ (World.drew _);refine Zg 0 ?_;refine Zg 1 ?_;refine Zg 2 ?_;refine Zc 3 c0 ?_;refine Zg 4 ?_;refine Zg 5 ?_;refine Zg 6 ?_;refine Zc 7 le ?_;refine Zg 8 ?_;refine Zf 9 rfl (fun w9 hE=>by have d0E:=hE.cell d0; have d1E:=hE.cell d1; have d2E:=hE.cell d2; have d3E:=hE.cell d3; have d4E:=hE.cell d4; have d5E:=hE.cell d5; have d6E:=hE.cell d6; have d7E:=hE.cell d7; have d8E:=hE.cell d8; have d9E:=hE.cell d9; clear hE; first | (go_simp; done) | (go_simp; with_reducible rfl)) ?_;refine Zo 10 fun K hK=>?_;go_simp;refine hK _ _ (Ext.alloc _ _) ?_; clear hK K;refine wpE_last rfl (by kernel_rfl) (by kernel_rfl) (by kernel_rfl) (fun K hK=>?_);go_simp;refine hK _ _ ?_; clear hK K;have hbx:((wr.alloc (.cells (tyArr y pa y.parts.length pc ma ml mc oa ol oc) 50)).drew).heap[wr.heap.size]? = some (.cells (tyArr y pa y.parts.length pc ma ml mc oa ol oc) 50 (0,0)):=heap_alloc_new _ _;obtain ⟨W4,hW4⟩:∃ W4:World,W4=(wr.alloc (.cells (tyArr y pa y.parts.length pc ma ml mc oa ol oc) 50)).drew:=⟨_,rfl⟩;have hE4:Ext wr W4:=by rw [hW4]; exact (Ext.alloc _ _).trans (Ext.drew _)
   rw [<- hW4] at hbx;unfold tyArr at hW4;rw [<- hW4];clear hW4 c0 le d0 d1 d2 d3 d4 d5 d6 d7 d8 d9;have HE4:=dh (hH.out.1.trans hE4);have HP:=dh (Parts.mono hE4 Hps.out);have le:=hE4.cell Hle.out;clear hE4;have b0:=(tyBox_of hbx).c0;have b7:=(tyBox_of hbx).c7;obtain ⟨xb,hxb⟩:∃ xb,xb=wr.heap.size:=⟨_,rfl⟩;rw [<- hxb] at b0 b7 ⊢;clear hbx hxb;cases k10:(y.kind==10)
   ·cases k12:(y.kind==12)
    ·have HJ:=dh (firstF_at hlt Hu.out hH.out.2 (Or.inr ⟨by rw [show fieldN (nth g u)=[] by rw [<- HY.out]; unfold fieldN; rw [if_neg (by simp only [beq_eq_false_iff_ne] at k10 k12; omega)],idxI_none (fun j hj=>by cases hj)]; decide,rfl⟩));go_upto_region 10 with (fail);go_loopw [13] (fun i wx=>i=.int .i64 0/\wx=W4) (fun _ _=>0)
     case atStart=>exact ⟨rfl,rfl⟩
     case round =>
      obtain ⟨rfl,rfl⟩:=hrel;rename World=>W4;rcases Nat.eq_zero_or_pos y.parts.length with h0 | h0
      ·have hpos:((y.parts.length:Nat):Int)=0:=by omega
       go_wp2_with fail;go_roundw
       case rel=>exact ⟨k+1,by omega,by go_num,dh ⟨HE4.out,HJ.out⟩⟩
       case measure=>simp [intOf]; omega
      ·have hpos:(0:Int)<y.parts.length:=by omega
       go_wp2_with fail;go_roundw
       case rel=>exact ⟨k+1,by omega,by go_num,dh ⟨HE4.out,HJ.out⟩⟩
       case measure=>simp [intOf]; omega
    ·have HN:=dh (show fieldN (nth g u)=y.parts.map (·.name) by rw [<- HY.out]; unfold fieldN; rw [if_pos (Or.inr (by simpa using k12))]);go_upto_region 10 with (fail);go_loopw [13] (fun i wx=>∃ p:Nat,p<=y.parts.length/\i=.int .i64 p/\wx=W4/\Hid (∀ j,j<p->(s==(nth y.parts j).name)=false)) (fun i _=>y.parts.length-(intOf i).toNat)
     case atStart=>exact ⟨0,Nat.zero_le _,rfl,rfl,dh (fun j hj=>absurd hj (Nat.not_lt_zero _))⟩
     case round =>
      obtain ⟨p,hp,rfl,rfl,Hno⟩:=hrel;rename World=>W4;by_cases hpl:p<y.parts.length
      ·obtain ⟨pb,pof,hab,hpb,p0,_⟩:=Parts.at HP.out hpl;cases hab;cases hn:((nth y.parts p).name==s)
       ·have HJ:=dh (show ∀ j,j<p+1->(s==(nth y.parts j).name)=false from fun j hj=>by
         by_cases e:j=p
         ·rw [e]; exact beqc hn
         ·exact Hno.out j (by omega))
        rw [beq_toListBytes] at hn;go_wp2_with fail;go_roundw
        case rel=>exact ⟨p+1,by omega,by go_num,by trivial,HJ⟩
        case measure=>simp [intOf]; omega
       ·have hix:idxI (fun z=>s==z) (fieldN (nth g u))=p:=by
         rw [HN.out];exact idxI_some (by simpa using hpl) (by rw [nth_mapI _ hpl]; exact beqc hn) (fun j hj=>by rw [nth_mapI _ (by omega)]; exact Hno.out j hj)
        have hq:=Hq.out _ _ _ (Hq2.out _ (firstF_at (r:=((u:Int),(p:Int),0)) hlt Hu.out hH.out.2 (Or.inl ⟨by rw [hix]; omega,by rw [hix]⟩)));have Hr:=dh hq;rw [beq_toListBytes] at hn;clear hix hq;go_wp2_with fail;go_ret3;exact ⟨by rw [Hr.out.1,Hr.out.2.1,Hr.out.2.2]; rfl,HE2.out.trans HE4.out⟩
      ·have HJ:=dh (firstF_at hlt Hu.out hH.out.2 (Or.inr ⟨by rw [HN.out,idxI_none (fun j hj=>by rw [nth_mapI _ (by simpa using hj)]; exact Hno.out j (by simp at hj; omega))]; decide,rfl⟩));go_wp2_with fail;go_roundw
       case rel=>exact ⟨k+1,by omega,by go_num,dh ⟨HE4.out,HJ.out⟩⟩
       case measure=>simp [intOf]; omega
   ·have HN:=dh (show fieldN (nth g u)=y.parts.map (·.name) by rw [<- HY.out]; unfold fieldN; rw [if_pos (Or.inl (by simpa using k10))]);go_upto_region 10 with (fail);go_loopw [13] (fun i wx=>∃ p:Nat,p<=y.parts.length/\i=.int .i64 p/\wx=W4/\Hid (∀ j,j<p->(s==(nth y.parts j).name)=false)) (fun i _=>y.parts.length-(intOf i).toNat)
    case atStart=>exact ⟨0,Nat.zero_le _,rfl,rfl,dh (fun j hj=>absurd hj (Nat.not_lt_zero _))⟩
    case round =>
     obtain ⟨p,hp,rfl,rfl,Hno⟩:=hrel;rename World=>W4;by_cases hpl:p<y.parts.length
     ·obtain ⟨pb,pof,hab,hpb,p0,_⟩:=Parts.at HP.out hpl;cases hab;cases hn:((nth y.parts p).name==s)
      ·have HJ:=dh (show ∀ j,j<p+1->(s==(nth y.parts j).name)=false from fun j hj=>by
        by_cases e:j=p
        ·rw [e]; exact beqc hn
        ·exact Hno.out j (by omega))
       rw [beq_toListBytes] at hn;go_wp2_with fail;go_roundw
       case rel=>exact ⟨p+1,by omega,by go_num,by trivial,HJ⟩
       case measure=>simp [intOf]; omega
      ·have hix:idxI (fun z=>s==z) (fieldN (nth g u))=p:=by
        rw [HN.out];exact idxI_some (by simpa using hpl) (by rw [nth_mapI _ hpl]; exact beqc hn) (fun j hj=>by rw [nth_mapI _ (by omega)]; exact Hno.out j hj)
       have hq:=Hq.out _ _ _ (Hq2.out _ (firstF_at (r:=((u:Int),(p:Int),0)) hlt Hu.out hH.out.2 (Or.inl ⟨by rw [hix]; omega,by rw [hix]⟩)));have Hr:=dh hq;rw [beq_toListBytes] at hn;clear hix hq;go_wp2_with fail;go_ret3;exact ⟨by rw [Hr.out.1,Hr.out.2.1,Hr.out.2.2]; rfl,HE2.out.trans HE4.out⟩
     ·have HJ:=dh (firstF_at hlt Hu.out hH.out.2 (Or.inr ⟨by rw [HN.out,idxI_none (fun j hj=>by rw [nth_mapI _ (by simpa using hj)]; exact Hno.out j (by simp at hj; omega))]; decide,rfl⟩));go_wp2_with fail;go_roundw
      case rel=>exact ⟨k+1,by omega,by go_num,dh ⟨HE4.out,HJ.out⟩⟩
      case measure=>simp [intOf]; omega
  ·have hkl:k=L.length:=by omega
   subst hkl;have hq:=Hq.out _ _ _ (Hq2.out _ (show firstF g fieldN s L=(0,0,5) by rw [hH.out.2,List.drop_length]; rfl));have Hr:=dh hq;clear hq;go_wp2_with fail;go_ret3;exact ⟨by rw [Hr.out.1,Hr.out.2.1,Hr.out.2.2]; rfl,HE2.out.trans hH.out.1⟩
theorem methodG {W:World} {vb:Nat} {g:List Ty} {rs:List Reveal} (h:EnvG W vb g rs) (a:Int) (hx:I64 a) (s:BA) (hs:s.size<=140737488351232):Calls Tryz.prog 34 #[.pointer (some ⟨vb,0,none⟩),.int .i64 a,.string s] W fun e w' =>
  e=.returned (.tuple #[.int .i64 (methodQ g rs a s).1,.int .i64 (methodQ g rs a s).2.1,.int .i64 (methodQ g rs a s).2.2])/\Ext W w':=by
 obtain ⟨hop,D,hv,hD⟩:=id h;obtain ⟨_,h400,_,_,_⟩:=opens hop;obtain ⟨ga,gc,h0⟩:=hv.graph;have hcall:=dh (askedR49 vb ga g.length gc h400 _ 1 1 [a] _ ((Ext.alloc _ _).cell h0) (ints_one W a hx));have Hv:=dh hv.1;have Hop:=dh hop;have Hl:=dh (fun (x:Nat) (hx:x<g.length) (w:World) (hE:Ext W w)=>line60_of h hE hx);obtain ⟨q1,hq1⟩:∃ q,q=(methodQ g rs a s).1:=⟨_,rfl⟩;obtain ⟨q2,hq2⟩:∃ q,q=(methodQ g rs a s).2.1:=⟨_,rfl⟩;obtain ⟨q3,hq3⟩:∃ q,q=(methodQ g rs a s).2.2:=⟨_,rfl⟩;rw [<- hq1,<- hq2,<- hq3];have Hq:=dh (show ∀ x y z,methodQ g rs a s=(x,y,z)->q1=x/\q2=y/\q3=z from fun x y z h=>by rw [hq1,hq2,hq3,h]; exact ⟨rfl,rfl,rfl⟩);obtain ⟨er,her⟩:∃ er,er=askedR g.length [a]:=⟨_,rfl⟩;rw [<- her] at hcall;have Her:=dh her;clear hv hD h hop hq1 hq2 hq3 her
 go_enter Tryz.func34,Tryz.ntmps34
 go_wp2_with fail;refine hcall.out.mono ?_;rintro e w1 ⟨rfl,hE⟩;have HE:=dh ((Ext.alloc _ _).trans hE);clear hE hcall h0;have h01:er=0\/er=1:=by rw [Her.out]; exact asked01 _ _
 by_cases h1:er=1
 ·have hq:=Hq.out 0 0 1 (by unfold methodQ; rw [if_neg (by rw [<- Her.out,h1]; decide)]);have Hr:=dh hq;subst h1;clear h01 hq;go_wp2_with fail;go_ret3;exact ⟨by rw [Hr.out.1,Hr.out.2.1,Hr.out.2.2]; rfl,HE.out⟩
 have h2:er=0:=by omega
 obtain ⟨x,hax,hx1⟩:∃ x:Nat,a=x/\x<g.length:=by
  rcases askedR_cases g.length [a] with ⟨_,hin⟩ | ⟨h3,_⟩
  ·have:=hin a (by simp);exact ⟨a.toNat,by omega,by omega⟩
  ·rw [<- Her.out] at h3; exact absurd h3 h1
 subst hax;obtain ⟨L,hLL⟩:∃ L,L=lineL g rs x:=⟨_,rfl⟩;have Hq2:=dh (show ∀ r,firstF g methN s L=r->methodQ g rs x s=r from fun r h=>by
  unfold methodQ;rw [if_pos (by rw [<- Her.out,h2]),Int.toNat_natCast,<- hLL,h])
 clear h01 h1;subst h2;go_wp2_with fail;have hcl:=Hl.out x hx1 w1 HE.out;have hok:=line_ok Hop.out hx1;rw [<- hLL] at hcl hok;refine hcl.mono ?_;rintro e w2 ⟨la,lc,rfl,hI,hE⟩;have hln:=hok.le;have HE2:=dh (HE.out.trans hE);have HI:=dh hI;have Hok:=dh hok;clear hcl hE hI hok hLL;go_upto_region 6 with (fail);go_loopw [11,12,13] (fun i _ _ wr=>∃ k:Nat,k<=L.length/\i=.int .i64 k/\Hid (Ext w2 wr/\firstF g methN s L=firstF g methN s (L.drop k))) (fun i _ _ _=>L.length-(intOf i).toNat)
 case atStart=>exact ⟨0,Nat.zero_le _,rfl,dh ⟨Ext.refl _,rfl⟩⟩
 case round =>
  obtain ⟨k,hk,rfl,hH⟩:=hrel;by_cases hlt:k<L.length
  ·obtain ⟨lb,loff,hab,_,le,-⟩:=Ints.at (Ints.mono hH.out.1 HI.out) (i:=k) (by simpa [numsOf] using hlt);cases hab;unfold numsOf at le;rw [nth_mapI _ hlt] at le;obtain ⟨u,hu⟩:∃ u,u=nth L k:=⟨_,rfl⟩;have hun:u<g.length:=by rw [hu]; exact Hok.out.lt _ (nth_mem hlt)
   rw [<- hu] at le;have Hu:=dh hu;have Hle:=dh le;clear hu;obtain ⟨_,_,_,_,_,_,c0,_,_,hG,_,_⟩:=Hv.out.mono (HE2.out.trans hH.out.1);obtain ⟨gb,gof,pa,pl,pc,ma,ml,mc,oa,ol,oc,hab,hbl,hT⟩:=Graph.at hG hun;cases hab;obtain ⟨y,hy⟩:∃ y,y=nth g u:=⟨_,rfl⟩;rw [<- hy] at hT;have HY:=dh hy;obtain ⟨d0,d1,d2,d3,d4,d5,d6,d7,d8,d9,hps,hms,_,_⟩:=hT;have Hps:=dh hms;have hpsb:=(SlW.bound hms).2;obtain rfl:=SlW.len hms;clear hG hy hps hms;go_upto_region 8 with (fail);refine Zr 11 ?_;change wpE _ _ _ _ _ _ _ _ (World.drew _);refine Zg 0 ?_;refine Zg 1 ?_;refine Zg 2 ?_;refine Zc 3 c0 ?_;refine Zg 4 ?_;refine Zg 5 ?_;refine Zg 6 ?_;refine Zc 7 le ?_;refine Zg 8 ?_;refine Zf 9 rfl (fun w9 hE=>by have d0E:=hE.cell d0; have d1E:=hE.cell d1; have d2E:=hE.cell d2; have d3E:=hE.cell d3; have d4E:=hE.cell d4; have d5E:=hE.cell d5; have d6E:=hE.cell d6; have d7E:=hE.cell d7; have d8E:=hE.cell d8; have d9E:=hE.cell d9; clear hE; first | (go_simp; done) | (go_simp; with_reducible rfl)) ?_;refine Zo 10 fun K hK=>?_;go_simp;refine hK _ _ (Ext.alloc _ _) ?_; clear hK K;refine wpE_last rfl (by kernel_rfl) (by kernel_rfl) (by kernel_rfl) (fun K hK=>?_);go_simp;refine hK _ _ ?_; clear hK K;have hbx:((wr.alloc (.cells (tyArr y pa pl pc ma y.methods.length mc oa ol oc) 50)).drew).heap[wr.heap.size]? = some (.cells (tyArr y pa pl pc ma y.methods.length mc oa ol oc) 50 (0,0)):=heap_alloc_new _ _;obtain ⟨W4,hW4⟩:∃ W4:World,W4=(wr.alloc (.cells (tyArr y pa pl pc ma y.methods.length mc oa ol oc) 50)).drew:=⟨_,rfl⟩;have hE4:Ext wr W4:=by rw [hW4]; exact (Ext.alloc _ _).trans (Ext.drew _)
   rw [<- hW4] at hbx;unfold tyArr at hW4;rw [<- hW4];clear hW4 c0 le d0 d1 d2 d3 d4 d5 d6 d7 d8 d9;have HE4:=dh (hH.out.1.trans hE4);have HP:=dh (Meths.mono hE4 Hps.out);have le:=hE4.cell Hle.out;clear hE4;have b0:=(tyBox_of hbx).c0;have b7:=(tyBox_of hbx).c8;obtain ⟨xb,hxb⟩:∃ xb,xb=wr.heap.size:=⟨_,rfl⟩;rw [<- hxb] at b0 b7 ⊢;clear hbx hxb;have HN:=dh (show methN (nth g u)=y.methods.map (·.name) by rw [<- HY.out]; rfl);go_upto_region 10 with (fail);go_loopw [13] (fun i wx=>∃ p:Nat,p<=y.methods.length/\i=.int .i64 p/\wx=W4/\Hid (∀ j,j<p->(s==(nth y.methods j).name)=false)) (fun i _=>y.methods.length-(intOf i).toNat)
   case atStart=>exact ⟨0,Nat.zero_le _,rfl,rfl,dh (fun j hj=>absurd hj (Nat.not_lt_zero _))⟩
   case round =>
    obtain ⟨p,hp,rfl,rfl,Hno⟩:=hrel;rename World=>W4;by_cases hpl:p<y.methods.length
    ·obtain ⟨pb,pof,_,_,_,_,_,_,hab,hpb,p0,_⟩:=Meths.at HP.out hpl;cases hab;cases hn:((nth y.methods p).name==s)
     ·have HJ:=dh (show ∀ j,j<p+1->(s==(nth y.methods j).name)=false from fun j hj=>by
       by_cases e:j=p
       ·rw [e]; exact beqc hn
       ·exact Hno.out j (by omega))
      rw [beq_toListBytes] at hn;go_wp2_with fail;go_roundw
      case rel=>exact ⟨p+1,by omega,by go_num,by trivial,HJ⟩
      case measure=>simp [intOf]; omega
     ·have hix:idxI (fun z=>s==z) (methN (nth g u))=p:=by
       rw [HN.out];exact idxI_some (by simpa using hpl) (by rw [nth_mapI _ hpl]; exact beqc hn) (fun j hj=>by rw [nth_mapI _ (by omega)]; exact Hno.out j hj)
      have hq:=Hq.out _ _ _ (Hq2.out _ (firstF_at (r:=((u:Int),(p:Int),0)) hlt Hu.out hH.out.2 (Or.inl ⟨by rw [hix]; omega,by rw [hix]⟩)));have Hr:=dh hq;rw [beq_toListBytes] at hn;clear hix hq;go_wp2_with fail;go_ret3;exact ⟨by rw [Hr.out.1,Hr.out.2.1,Hr.out.2.2]; rfl,HE2.out.trans HE4.out⟩
    ·have HJ:=dh (firstF_at hlt Hu.out hH.out.2 (Or.inr ⟨by rw [HN.out,idxI_none (fun j hj=>by rw [nth_mapI _ (by simpa using hj)]; exact Hno.out j (by simp at hj; omega))]; decide,rfl⟩));go_wp2_with fail;go_roundw
     case rel=>exact ⟨k+1,by omega,by go_num,dh ⟨HE4.out,HJ.out⟩⟩
     case measure=>simp [intOf]; omega
  ·have hkl:k=L.length:=by omega
   subst hkl;have hq:=Hq.out _ _ _ (Hq2.out _ (show firstF g methN s L=(0,0,5) by rw [hH.out.2,List.drop_length]; rfl));have Hr:=dh hq;clear hq;go_wp2_with fail;go_ret3;exact ⟨by rw [Hr.out.1,Hr.out.2.1,Hr.out.2.2]; rfl,HE2.out.trans hH.out.1⟩
end
section
open Go.RowKit Go.Proofs Go.Shelf
def endsV (t:Ty):Int × Int:=if t.kind=1 then (-1000000000,1000000000) else (t.low,t.high)
theorem ends65 (t:Ty) (pa:Option Addr) (pl pc:Nat) (ma:Option Addr) (ml mc:Nat) (oa:Option Addr) (ol oc:Nat) (w:World) :
  Calls Tryz.prog 65 #[.agg (tyArr t pa pl pc ma ml mc oa ol oc)] w fun e w'=>e=.returned (.tuple #[.int .i64 (endsV t).1,.int .i64 (endsV t).2])/\Ext w w':=by
 have hbox:(w.alloc (.cells (tyArr t pa pl pc ma ml mc oa ol oc) 50)).heap[w.heap.size]? = some (.cells (tyArr t pa pl pc ma ml mc oa ol oc) 50 (0,0)):=heap_alloc_new _ _;have b0:=(tyBox_of hbox).c0;have b1:=(tyBox_of hbox).c1;have b2:=(tyBox_of hbox).c2;clear hbox;cases k1:(t.kind==1)
 ·have Hv:=dh (show endsV t=(t.low,t.high) by unfold endsV; rw [if_neg (by simpa using k1)])
  go_enter Tryz.func65,Tryz.ntmps65
  go_upto_region 3 with (fail)
  go_quiet (fail)
  go_wp2_with fail;go_ret2;exact ⟨by rw [Hv.out]; rfl,below_drewN (Ext.alloc _ _) _⟩
 ·have Hv:=dh (show endsV t=(-1000000000,1000000000) by unfold endsV; rw [if_pos (by simpa using k1)])
  go_enter Tryz.func65,Tryz.ntmps65
  go_wp2_with fail;go_ret2;exact ⟨by rw [Hv.out]; rfl,Ext.alloc _ _⟩
theorem lineG {W:World} {vb:Nat} {g:List Ty} {rs:List Reveal} (h:EnvG W vb g rs) (a:Int) (hx:I64 a):Calls Tryz.prog 27 #[.pointer (some ⟨vb,0,none⟩),.int .i64 a] W (RowPost W (lineQ g rs a) (askedR g.length [a])):=by
 obtain ⟨hop,D,hv,hD⟩:=id h;obtain ⟨_,h400,_,_,_⟩:=opens hop;obtain ⟨ga,gc,h0⟩:=hv.graph;have hcall:=dh (askedR49 vb ga g.length gc h400 _ 1 1 [a] _ ((Ext.alloc _ _).cell h0) (ints_one W a hx));have Hl:=dh (fun (x:Nat) (hx:x<g.length) (w:World) (hE:Ext W w)=>line60_of h hE hx);obtain ⟨q,hq⟩:∃ q,q=lineQ g rs a:=⟨_,rfl⟩;obtain ⟨er,her⟩:∃ er,er=askedR g.length [a]:=⟨_,rfl⟩;rw [<- her,<- hq];rw [<- her] at hcall;have Hq:=dh hq;have Her:=dh her;clear hv hD h hop hq her
 go_enter Tryz.func27,Tryz.ntmps27
 go_wp2_with fail;refine hcall.out.mono ?_;rintro e w1 ⟨rfl,hE⟩;have HE:=dh ((Ext.alloc _ _).trans hE);clear hE hcall h0;have h01:er=0\/er=1:=by rw [Her.out]; exact asked01 _ _
 by_cases h1:er=1
 ·have Hl:=dh (show q=[] by rw [Hq.out]; unfold lineQ; rw [if_neg (by rw [<- Her.out,h1]; decide)]);subst h1;clear h01;go_wp2_with fail;go_ret2;exact ⟨none,0,0,rfl,by rw [Hl.out]; exact SlW.nil _ _ _,HE.out⟩
 have h2:er=0:=by omega
 obtain ⟨x,hax,hx1⟩:∃ x:Nat,a=x/\x<g.length:=by
  rcases askedR_cases g.length [a] with ⟨_,hin⟩ | ⟨h3,_⟩
  ·have:=hin a (by simp);exact ⟨a.toNat,by omega,by omega⟩
  ·rw [<- Her.out] at h3; exact absurd h3 h1
 subst hax;have Hf:=dh (show q=numsOf (lineL g rs x) by rw [Hq.out]; unfold lineQ; rw [if_pos (by rw [<- Her.out,h2])]; rfl);clear h01 h1;subst h2;go_wp2_with fail;refine (Hl.out x hx1 w1 HE.out).mono ?_;rintro e w2 ⟨la,lc,rfl,hI,hE⟩;have HE:=dh (HE.out.trans hE);have HI:=dh hI;clear hE hI;go_wp2_with fail;go_ret2;exact ⟨la,_,lc,rfl,by rw [Hf.out]; exact HI.out,HE.out⟩
end
end Go.Proofs.YtjffkeoajkhbmaaGreat
