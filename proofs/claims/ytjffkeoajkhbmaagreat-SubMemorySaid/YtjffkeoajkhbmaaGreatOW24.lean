/- The reference's circle. The reference's Agree. -/
import Derived.Test.YtjffkeoajkhbmaaGreatOW7
import Derived.Test.YtjffkeoajkhbmaaGreatOW19
import Derived.Test.YtjffkeoajkhbmaaGreatOW20
import Derived.Test.YtjffkeoajkhbmaaGreatOW23
namespace Go.Proofs.YtjffkeoajkhbmaaGreat
set_option linter.unusedSimpArgs false
set_option linter.unusedVariables false
set_option maxRecDepth 100000
set_option maxHeartbeats 8000000
section
open Go.RowKit Go.Proofs
theorem mem_succC {g:List Ty} {C:Nat->Nat} {rs:List Reveal} {c u:Nat}:u∈succC g C rs c↔∃ t b,t<g.length/\C t=c/\b∈upsL g rs t/\C b=u:=by
 unfold succC succTo;simp only [List.mem_flatten,List.mem_map,List.mem_range];constructor
 ·rintro ⟨l,⟨t,ht,rfl⟩,hu⟩;split at hu
  ·rename_i hc
   obtain ⟨b,hb,rfl⟩:=List.mem_map.1 hu;exact ⟨t,b,ht,hc,hb,rfl⟩
  ·cases hu
 ·rintro ⟨t,b,ht,hc,hb,rfl⟩;exact ⟨_,⟨t,ht,rfl⟩,by rw [if_pos hc]; exact List.mem_map.2 ⟨b,hb,rfl⟩⟩
def TabOk (g:List Ty) (C:Nat->Nat) (rs:List Reveal) (a b:Nat) (F:Nat->Nat->Bool):Prop :=
 ∀ x y,x<g.length->y<g.length->(F x y=true↔∃ t u,(t<a\/t=a/\u<b)/\u<g.length/\u∈upsL g rs t/\C t=x/\C u=y)
theorem TabOk.skip {g:List Ty} {C:Nat->Nat} {rs:List Reveal} {a b:Nat} {F:Nat->Nat->Bool} (h:TabOk g C rs a b F) (hb:b∉upsL g rs a):TabOk g C rs a (b+1) F:=fun x y hx hy=>by
 rw [h x y hx hy];constructor
 ·rintro ⟨t,u,h1,h2⟩; exact ⟨t,u,h1.imp id (fun e=>⟨e.1,by omega⟩),h2⟩
 ·rintro ⟨t,u,h1,h2,h3,h4⟩;refine ⟨t,u,?_,h2,h3,h4⟩;rcases h1 with h1 | ⟨rfl,h1⟩
  ·exact Or.inl h1
  ·by_cases e:u=b
   ·subst e; exact absurd h3 hb
   ·exact Or.inr ⟨rfl,by omega⟩
theorem TabOk.hit {g:List Ty} {C:Nat->Nat} {rs:List Reveal} {a b:Nat} {F:Nat->Nat->Bool} (h:TabOk g C rs a b F) (hbn:b<g.length) (hb:b∈upsL g rs a):TabOk g C rs a (b+1) (fun i=>if i=C a then mark (F (C a)) (C b) else F i):=fun x y hx hy=>by
 have key:((fun i=>if i=C a then mark (F (C a)) (C b) else F i) x y=true)↔(F x y=true\/x=C a/\y=C b):=by
  show ((if x=C a then mark (F (C a)) (C b) else F x) y=true)↔_
  by_cases e:x=C a
  ·subst e;simp only [if_true,mark,Bool.or_eq_true,beq_iff_eq,true_and];exact Or.comm
  ·rw [if_neg e]; simp [e]
 rw [key,h x y hx hy];constructor
 ·rintro (⟨t,u,h1,h2⟩ | ⟨rfl,rfl⟩)
  ·exact ⟨t,u,h1.imp id (fun e=>⟨e.1,by omega⟩),h2⟩
  ·exact ⟨a,b,Or.inr ⟨rfl,by omega⟩,hbn,hb,rfl,rfl⟩
 ·rintro ⟨t,u,h1,h2,h3,h4,h5⟩;rcases h1 with h1 | ⟨rfl,h1⟩
  ·exact Or.inl ⟨t,u,Or.inl h1,h2,h3,h4,h5⟩
  ·by_cases e:u=b
   ·subst e; exact Or.inr ⟨h4.symm,h5.symm⟩
   ·exact Or.inl ⟨t,u,Or.inr ⟨rfl,by omega⟩,h2,h3,h4,h5⟩
theorem TabOk.next {g:List Ty} {C:Nat->Nat} {rs:List Reveal} {a:Nat} {F:Nat->Nat->Bool} (h:TabOk g C rs a g.length F):TabOk g C rs (a+1) 0 F:=fun x y hx hy=>by
 rw [h x y hx hy];constructor
 ·rintro ⟨t,u,h1,h2⟩; exact ⟨t,u,Or.inl (by omega),h2⟩
 ·rintro ⟨t,u,h1,h2⟩;refine ⟨t,u,?_,h2⟩;rcases h1 with h1 | ⟨_,h1⟩
  ·by_cases e:t=a
   ·exact Or.inr ⟨e,h2.1⟩
   ·exact Or.inl (by omega)
  ·exact absurd h1 (Nat.not_lt_zero _)
theorem TabOk.full {g:List Ty} {C:Nat->Nat} {rs:List Reveal} {F:Nat->Nat->Bool} (h:TabOk g C rs g.length 0 F) (hup:∀ t,t<g.length->∀ u,u∈upsL g rs t->u<g.length):∀ x y,x<g.length->y<g.length->(F x y=true↔y∈succC g C rs x):=fun x y hx hy=>by
 rw [h x y hx hy,mem_succC];constructor
 ·rintro ⟨t,u,h1,_,h3,h4,h5⟩;exact ⟨t,u,by omega,h4,h3,h5⟩
 ·rintro ⟨t,u,h1,h4,h3,h5⟩;exact ⟨t,u,Or.inl h1,hup t h1 u h3,h3,h4,h5⟩
theorem tRow_at {n k j:Nat} (rb:Nat->Nat) (h:j<n) (hk:k<=j):(tRow n k rb)[j]? = some (.slice none 0 0):=by
 simp [tRow,h]; omega
theorem circle91 (ga:Option Addr) (n gc:Nat) (g:List Ty) (ra:Option Addr) (rn rc:Nat) (rs:List Reveal) (ca:Option Addr) (cc:Nat) (C:Nat->Nat) (w:World) (hg:Graph w (.slice ga n gc) g) (hre:Reveals w (.slice ra rn rc) rs)
  (hC:Ints w (.slice ca n cc) ((List.range n).map fun i=>(C i:Int))) (hn:n<=400) (hCl:∀ i,C i<=i) (h0:∀ a,a<n->hasSuperB (nth g a).kind=true->0<=(nth g a).super) (hup:∀ t,t<n->∀ u,u∈upsL g rs t->u<n) (hr:∀ k,k<rs.length->0<=(nth rs k).type) :
  Calls Tryz.prog 91 #[.slice ga n gc,.slice ra rn rc,.slice ca n cc] w fun e w'=>∃ res:Bool,e=.returned (.bool res)/\(res=true↔∃ a,a<n/\Way (succC g C rs) a a)/\Ext w w':=by
 obtain rfl:=SlW.len hg;have hmk:=makeTab g.length hn;have HmkR:=dh (makeRowT g.length hn);have Hg:=dh hg;have Hre:=dh hre;have HC:=dh hC;have HCl:=dh hCl;have H0:=dh h0;have Hup:=dh hup;have Hr:=dh hr;have Hs:=dh (show ∀ x,x<g.length->∀ u,u∈succC g C rs x->u<g.length from fun x hx u hu=>by
  obtain ⟨t,b,ht,_,hb,rfl⟩:=mem_succC.1 hu;have:=hup t ht b hb;have:=hCl b;omega)
 clear hg hre hC hCl h0 hup hr
 go_enter Tryz.func91,Tryz.ntmps91
 go_upto_region 4 with (fail);have H1:=dh (Mat.new (Ext.refl w) g.length (fun _=>0) (fun _ _=>false));obtain ⟨t,ht⟩:∃ t,t=w.heap.size:=⟨_,rfl⟩;rw [<- ht] at H1 ⊢;clear ht hmk;go_loopw [9] (fun i wr=>∃ k:Nat,k<=g.length/\i=.int .i64 k/\Hid (∃ rb F,Mat w wr t g.length k rb F/\∀ x y,F x y=false)) (fun i _=>g.length-(intOf i).toNat)
 case atStart=>exact ⟨0,Nat.zero_le _,rfl,dh ⟨_,_,H1.out,fun _ _=>rfl⟩⟩
 case round =>
  clear H1;obtain ⟨k,hk,rfl,hH⟩:=hrel;obtain ⟨rb,F,hM,hF⟩:=hH.out;clear hH;by_cases hlt:k<g.length
  ·have ct:=row_cell hM.tab (tRow_at rb hlt (Nat.le_refl k));have ft:=row_free hM.tab k;have hlt2:=row_lt hM.tab;have hadd:=hM.add hlt;rw [World.setCell_alloc_past _ _ _ _ hlt2] at hadd;have HM:=dh hadd;have HF:=dh (show ∀ x y,(fun i=>if i=k then fun _=>false else F i) x y=false from fun x y=>by
    by_cases e:x=k
    ·simp [e]
    ·simp only [if_neg e]; exact hF x y)
   have hmk:=HmkR.out;clear hM hF hadd;go_wp2_with fail;go_roundw
   case rel=>exact ⟨k+1,by omega,by go_num,dh ⟨_,_,HM.out,HF.out⟩⟩
   case measure=>simp [intOf]; omega
  ·have hkn:k=g.length:=by omega
   subst hkn;have HM:=dh hM;have HT:=dh (show TabOk g C rs 0 0 F from fun x y _ _=>by
    rw [hF x y];constructor
    ·intro h; cases h
    ·rintro ⟨t,u,h1,_⟩; omega)
   clear hM hF;go_upto_region 8 with (fail);rename World=>W1;go_loopw [10,11] (fun av _ wr=>∃ a:Nat,a<=g.length/\av=.int .i64 a/\Hid (∃ rb F,Mat w wr t g.length g.length rb F/\TabOk g C rs a 0 F)) (fun av _ _=>g.length-(intOf av).toNat)
   case atStart=>exact ⟨0,Nat.zero_le _,rfl,dh ⟨_,_,HM.out,HT.out⟩⟩
   case round =>
    clear HM HT;obtain ⟨a,ha,rfl,hH⟩:=hrel;by_cases hag:a<g.length
    ·go_upto_region 11 with (fail);go_loopw [11] (fun bv wx=>∃ b:Nat,b<=g.length/\bv=.int .i64 b/\Hid (∃ rb F,Mat w wx t g.length g.length rb F/\TabOk g C rs a b F)) (fun bv _=>g.length-(intOf bv).toNat)
     case atStart=>exact ⟨0,Nat.zero_le _,rfl,hH⟩
     case round =>
      clear hH;obtain ⟨b,hb,rfl,hH⟩:=hrel;obtain ⟨rb,F,hM,hF⟩:=hH.out;have HM:=dh hM;have HF:=dh hF;clear hH hM hF;by_cases hbg:b<g.length
      ·go_wp2_with fail;refine (up126 _ _ _ g _ _ _ rs a b _ (Graph.mono HM.out.ext Hg.out) (Reveals.mono HM.out.ext Hre.out) hag (H0.out a hag) Hr.out).mono ?_;rintro e w2 ⟨rfl,hE⟩;have HM:=dh (HM.out.mono hE);clear hE;by_cases hm:b∈upsL g rs a
       ·rw [decide_eq_true hm];have HF:=dh (HF.out.hit hbg hm);clear hm;have hcc:=HM.out.ext;obtain ⟨cb,cof,hab,_,ca1,_⟩:=Ints.at (Ints.mono hcc HC.out) hag;cases hab;obtain ⟨cb2,cof2,hab2,_,cb1,_⟩:=Ints.at (Ints.mono hcc HC.out) hbg;cases hab2;rw [nth_eq (by simpa using hag)] at ca1;rw [nth_eq (by simpa using hbg)] at cb1;simp only [List.getElem_map,List.getElem_range] at ca1 cb1;have hca:C a<g.length:=by have:=HCl.out a; omega
        have hcb:C b<g.length:=by have:=HCl.out b; omega
        have tc:=HM.out.tcell hca hca;have rc1:=(HM.out.row (C a) hca).cell hcb;have rf1:=(HM.out.row (C a) hca).free (C b);have HM2:=dh ((HM.out.set hca (C b)).mono (Ext.drew _));clear hcc HM;go_upto_region 14 with (fail);refine Zr 12 ?_;change wpE _ _ _ _ _ _ _ _ (World.drew _);refine Zg 0 ?_;refine Zg 1 ?_;refine Zg 2 ?_;refine Zg 3 ?_;refine Zc 4 ca1 ?_;refine Zg 5 ?_;refine Zc 6 tc ?_;refine Zg 7 ?_;refine Zg 8 ?_;refine Zg 9 ?_;refine Zc 10 cb1 ?_;refine Zg 11 ?_;refine wpE_last rfl (by kernel_rfl) (by kernel_rfl) (by kernel_rfl) (fun K hK=>?_);go_simp;refine hK _ _ ?_;clear hK K;go_wp2_with fail;go_roundw
        case rel=>exact ⟨b+1,by omega,by go_num,dh ⟨_,_,HM2.out,HF.out⟩⟩
        case measure=>simp [intOf]; omega
       ·rw [decide_eq_false hm];have HF:=dh (HF.out.skip hm);clear hm;go_wp2_with fail;go_roundw
        case rel=>exact ⟨b+1,by omega,by go_num,dh ⟨_,_,HM.out,HF.out⟩⟩
        case measure=>simp [intOf]; omega
      ·have hbn:b=g.length:=by omega
       subst hbn;have HF:=dh HF.out.next;go_wp2_with fail;go_roundw
       case rel=>exact ⟨a+1,by omega,by go_num,dh ⟨_,_,HM.out,HF.out⟩⟩
       case measure=>simp [intOf]; omega
    ·have han:a=g.length:=by omega
     subst han;obtain ⟨rb,F,hM,hF⟩:=hH.out;have HM:=dh hM;have HF:=dh (hF.full Hup.out);clear hH hM hF;go_upto_region 16 with (fail);rename World=>W2;go_loopw [12,13,14,15,16] (fun av _ _ _ _ wr=>∃ a:Nat,a<=g.length/\av=.int .i64 a/\Hid (Mat w wr t g.length g.length rb F/\∀ x,x<a->¬ Way (succC g C rs) x x)) (fun av _ _ _ _ _=>g.length-(intOf av).toNat)
     case atStart=>exact ⟨0,Nat.zero_le _,rfl,dh ⟨HM.out,fun x hx=>absurd hx (Nat.not_lt_zero _)⟩⟩
     case round =>
      clear HM
      rename_i wr
      obtain ⟨a,ha,rfl,hH⟩:=hrel;have HM:=dh hH.out.1;have Hno:=dh hH.out.2;clear hH;by_cases hag:a<g.length
      ·have hmk:=HmkR.out;go_upto_region 20 with (fail);have HB:=dh (Bfs.start HM.out a);obtain ⟨sb,hsb⟩:∃ sb,sb=wr.heap.size:=⟨_,rfl⟩;rw [<- hsb] at HB ⊢;clear hmk HM hsb;rename World=>W3;go_loopg [14,15,16] (2*g.length+1) (fun N v _ _ wx=>Hid (∃ S Q,Bfs w wx t g.length rb F sb S v Q/\WInv g.length (succC g C rs) a S Q/\2*unseen g.length S+Q.length<=N/\N<=2*g.length+1))
       case atStart=>exact dh ⟨_,_,HB.out,WInv.start hag,by have:=unseen_le g.length (fun _=>false); simp only [List.length_singleton]; omega,Nat.le_refl _⟩
       case round =>
        clear HB;obtain ⟨S,Q,hB,hW,hN,hN2⟩:=hrel.out;clear hrel;obtain ⟨gq,oq,cq,curq,rfl,-⟩:=id hB.que;cases Q with
        | nil =>
         have cs:=hB.seen.cell hag;have HM:=dh hB.mat;have Hd:=dh (hW.done Hs.out hag hag);clear hB hW hN;cases hsa:S a
         ·rw [hsa] at cs;have Hno2:=dh (show ∀ x,x<a+1->¬ Way (succC g C rs) x x from fun x hx=>by
           by_cases e:x=a
           ·subst e;intro hw;rw [Hd.out.2 hw] at hsa; cases hsa
           ·exact Hno.out x (by omega))
          clear hsa;go_wp2_with fail;go_roundw
          case rel=>exact ⟨a+1,by omega,by go_num,dh ⟨HM.out,Hno2.out⟩⟩
          case measure=>simp [intOf]; omega
         ·rw [hsa] at cs;have Hw:=dh (Hd.out.1 hsa);clear hsa;go_wp2_with fail;go_ret;exact ⟨true,rfl,⟨fun _=>⟨a,hag,Hw.out⟩,fun _=>rfl⟩,HM.out.ext⟩
        | cons x q =>
         obtain ⟨hxn,hxS⟩:=hW.que x (by simp);obtain ⟨v2,hsl,hT2,hob⟩:=slice_tailA hB.que;obtain ⟨gq',oq',cq',curq',he,k1,k2,k3,k4,k5,k6⟩:=id hB.que;cases he;have e0:wr.cell? ⟨gq,oq,none⟩=some (.int .i64 x):=row_cell k2 (by simpa using k6 0 x rfl);simp only [List.length_cons] at hN hsl ⊢;obtain ⟨g8,o8,c8,cur8,rfl,-⟩:=id hT2;have HB:=dh (hB.pop hT2);have HL:=dh hW.look;have HxS:=dh hxS;have hlen:(0:Int)<(q.length:Int)+1:=by omega
         clear hB hW hT2 hob k1 k2 k3 k4 k5 k6 hxS;go_upto_region 24 with (fail);clear hsl e0 hlen;rename World=>W4;have hM0:2*unseen g.length S+q.length<=gk-1:=by omega
         have hgk:0<gk:=by omega
         go_loopw [14,16] (fun v bv wx=>∃ b:Nat,b<=g.length/\bv=.int .i64 b/\Hid (∃ S Q,Bfs w wx t g.length rb F sb S v Q/\LInv g.length (succC g C rs) a x b S Q/\(x=a\/S x=true)/\2*unseen g.length S+Q.length<=gk-1)) (fun _ bv _=>g.length-(intOf bv).toNat)
         case atStart=>exact ⟨0,Nat.zero_le _,rfl,dh ⟨S,q,HB.out,HL.out,HxS.out,hM0⟩⟩
         case round =>
          clear HB HL HxS hM0 hN;obtain ⟨b,hb,rfl,hH⟩:=hrel;obtain ⟨S,Q,hB,hL,hxS,hM⟩:=hH.out;clear hH;obtain ⟨gq,oq,cq,curq,rfl,-⟩:=id hB.que;by_cases hbg:b<g.length
          ·have tc:=hB.mat.tcell hxn hxn;have rc1:=(hB.mat.row x hxn).cell hbg;have sc:=hB.seen.cell hbg;have HB:=dh hB;have HL:=dh hL;have HxS:=dh hxS;have Hfx:=dh (HF.out x b hxn hbg);clear hB hL hxS;cases hF:F x b
           ·rw [hF] at rc1;have HL:=dh (HL.out.skip (fun h=>by rw [Hfx.out.2 h] at hF; cases hF));clear hF;go_wp2_with fail;go_roundw
            case rel=>exact ⟨b+1,by omega,by go_num,dh ⟨S,Q,HB.out,HL.out,HxS.out,hM⟩⟩
            case measure=>simp [intOf]; omega
           ·rw [hF] at rc1;have Hmem:=dh (Hfx.out.1 hF);clear hF Hfx;cases hS:S b;rotate_left
            ·rw [hS] at sc;have HL:=dh (HL.out.skip (fun _=>hS));clear hS;go_wp2_with fail;go_roundw
             case rel=>exact ⟨b+1,by omega,by go_num,dh ⟨S,Q,HB.out,HL.out,HxS.out,hM⟩⟩
             case measure=>simp [intOf]; omega
            ·rw [hS] at sc;have hun:=unseen_mark hbg hS;have HL:=dh (HL.out.push (HxS.out.imp id fun h=>⟨hxn,h⟩) hbg Hmem.out);have hmk:=HB.out.mark b;have HxS2:=dh (show x=a\/mark S b x=true from HxS.out.imp id fun h=>by unfold mark; rw [h]; simp);have sf:=HB.out.seen.free b;clear hS HxS;go_upto_region 28 with (fail);obtain ⟨W5,hW5⟩:∃ W5:World,W5=wr.setCell ⟨sb,b,none⟩ (.bool true):=⟨_,rfl⟩;rw [<- hW5] at hmk ⊢;have HB2:=dh hmk;have hsz:=hmk.mat.ext.size;clear hW5 hmk HB tc rc1 sc sf;go_wp2_with (at_builtin; refine wpList_append_tail (B:=w.heap.size) (v:=.slice (some ⟨gq,oq,none⟩) Q.length cq) (xs:=Q) ?z1 (.tmp 97) (.tmp 99) ?z2 ?z3 (HB2.out.que.ext (Ext.alloc _ _)) ⟨W5.heap.size,0,none⟩ b ?z4 ?z5 (cell_new1 _ _ _) ?z6 ?z7 ?z8 ?_)
             case z1=>rfl
             case z2=>rfl
             case z3=>rfl
             case z4=>rfl
             case z5=>rfl
             case z6=>rfl
             case z7=>omega
             case z8=>rw [World.size_alloc]; omega
             intro v' W7 hq;have hT:=hq.tail;have hb3:=hq.bfs (HB2.out.mono (Ext.alloc W5 (.cells #[.int .i64 b] 3)));clear hq;obtain ⟨gA,oA,cA,curA,rfl,-⟩:=id hT;have HB3:=dh hb3;have hm2:2*unseen g.length (mark S b)+(Q++[b]).length<=gk-1:=by rw [List.length_append,List.length_singleton]; omega
             have Hm2:=dh hm2;clear hb3 hT hun HB2 hsz hm2;rw [List.length_append,List.length_singleton] at HB3 ⊢;go_wp2_with fail;go_roundw
             case rel=>exact ⟨b+1,by omega,by go_num,dh ⟨_,_,HB3.out,HL.out,HxS2.out,Hm2.out⟩⟩
             case measure=>simp [intOf]; omega
          ·have hbn:b=g.length:=by omega
           subst hbn;have HW:=dh hL.all;have HB:=dh hB;clear hB hL;go_wp2_with fail
           go_roundg (gk-1)
           case measure=>omega
           case rel=>exact dh ⟨S,Q,HB.out,HW.out,hM,by omega⟩
      ·have han:a=g.length:=by omega
       subst han;go_wp2_with fail;go_ret;exact ⟨false,rfl,⟨fun h=>(by cases h),fun ⟨x,hx,hw⟩=>absurd hw (Hno.out x hx)⟩,HM.out.ext⟩
end
section
open Go.RowKit Go.Proofs
def Drew (w w':World):Prop:=∃ m,w'=w.drewN m
theorem Drew.refl (w:World):Drew w w:=⟨0,rfl⟩
theorem Drew.more {w w':World} (h:Drew w w') (n:Nat):Drew w (w'.drewN n):=by
 obtain ⟨m,rfl⟩:=h;exact ⟨m+n,by rw [World.drewN_drewN]⟩
theorem Drew.ext {w w':World} (h:Drew w w'):Ext w w':=by
 obtain ⟨m,rfl⟩:=h;exact below_drewN (Ext.refl _) m
theorem sameStr162 (a:Option Addr) (n c:Nat) (xs:List BA) (a':Option Addr) (n' c':Nat) (ys:List BA) (w:World) (hx:Strs w (.slice a n c) xs) (hy:Strs w (.slice a' n' c') ys) :
  Calls Tryz.prog 162 #[.slice a n c,.slice a' n' c'] w fun e w'=>e=.returned (.bool (sameB (fun (x y:BA)=>x==y) xs ys))/\Drew w w':=by
 have hb:=(SlW.bound hx).2;obtain rfl:=SlW.len hx;obtain rfl:=SlW.len hy;have Hx:=dh hx;have Hy:=dh hy;clear hx hy;by_cases hl:xs.length=ys.length
 ·have hl2:((xs.length:Int)==(ys.length:Int))=true:=beq_iff_eq.2 (by omega);obtain ⟨yl,hyl⟩:∃ yl,yl=ys.length:=⟨_,rfl⟩;rw [<- hyl] at hl hl2 Hy ⊢;have Hyl:=dh hyl;have Hl:=dh hl;clear hyl hl
  go_enter Tryz.func162,Tryz.ntmps162
  go_wp2;go_loopw [5] (fun i wr=>∃ k:Nat,k<=xs.length/\i=.int .i64 k/\Hid (Drew w wr/\∀ j,j<k->(nth xs j==nth ys j)=true)) (fun i _=>xs.length-(intOf i).toNat)
  case atStart=>exact ⟨0,Nat.zero_le _,rfl,dh ⟨Drew.refl _,fun j hj=>absurd hj (by omega)⟩⟩
  case round =>
   obtain ⟨k,hk,rfl,hH⟩:=hrel;by_cases hkl:k<xs.length
   ·have hky:k<yl:=by rw [<- Hl.out]; exact hkl
    obtain ⟨b,off,hab,_,c0,_⟩:=Strs.at (Strs.mono hH.out.1.ext Hx.out) hkl;cases hab;obtain ⟨b2,off2,hab2,_,d0,_⟩:=Strs.at (Strs.mono hH.out.1.ext Hy.out) hky;cases hab2;cases heq:(nth xs k==nth ys k)
    ·have heq2:(ByteArray.toList (nth xs k)==ByteArray.toList (nth ys k))=false:=(beq_toListBytes _ _).symm.trans heq;have Hf:=dh (show sameB (fun (x y:BA)=>x==y) xs ys=false from sameB_false (by rw [Hl.out,Hyl.out]) hkl heq);go_upto_region 6 with (fail)
     go_quiet (fail)
     go_wp2_with fail;go_ret;exact ⟨ret_bool Hf.out.symm,hH.out.1.more _⟩
    ·have heq2:(ByteArray.toList (nth xs k)==ByteArray.toList (nth ys k))=true:=(beq_toListBytes _ _).symm.trans heq;have HJ:=dh (show ∀ j,j<k+1->(nth xs j==nth ys j)=true by
      intro j hj;by_cases hjk:j=k
      ·rw [hjk]; exact heq
      ·exact hH.out.2 j (by omega))
     go_upto_region 6 with (fail)
     go_quiet (fail)
     go_wp2_with fail;go_roundw
     case rel=>exact ⟨k+1,by omega,by go_num,dh ⟨hH.out.1.more _,HJ.out⟩⟩
     case measure=>simp [intOf]; omega
   ·have Hs:=dh (show sameB (fun (x y:BA)=>x==y) xs ys=true from sameB_true (by rw [Hl.out,Hyl.out]) (fun j hj=>hH.out.2 j (by omega)));go_wp2_with fail;go_ret;exact ⟨ret_bool Hs.out.symm,hH.out.1⟩
 ·have hl2:((xs.length:Int)==(ys.length:Int))=false:=beq_eq_false_iff_ne.2 (by omega);have Hf:=dh (sameB_of_len (eq:=fun (x y:BA)=>x==y) hl)
  go_enter Tryz.func162,Tryz.ntmps162
  go_wp2;go_ret;exact ⟨ret_bool Hf.out.symm,Drew.refl _⟩
def headEq (x y:Ty):Bool:=(x.kind==y.kind)&&(x.low==y.low)&&(x.high==y.high)&&(x.branded==y.branded)&&(x.brand.toList==y.brand.toList)&&(x.opq.toList==y.opq.toList)&&((x.parts.length:Int)==(y.parts.length:Int))&&((x.methods.length:Int)==(y.methods.length:Int))&&((x.overs.length:Int)==(y.overs.length:Int))
theorem bne_of {α:Type} [BEq α] {a b:α} {c:Bool} (h:(a==b)=c):(a != b)=!c:=by unfold bne; rw [h]
theorem head_no {x y:Ty} (h:headEq x y=false):agreeB x y=false:=by
 cases hb:agreeB x y with
 | false=>rfl
 | true =>
  unfold agreeB plainEq at hb;simp only [Bool.and_eq_true] at hb;have h1:=sameB_len hb.1.1.2;have h2:=sameB_len hb.1.2;have h3:=sameB_len hb.2;have h4:=hb.1.1.1;unfold headEq at h;rw [beq_toListBytes,beq_toListBytes] at h4;rw [h1,h2,h3,h4.1.1.1.1.1,h4.1.1.1.1.2,h4.1.1.1.2,h4.1.1.2,h4.1.2,h4.2] at h;simp at h
theorem head_yes {x y:Ty} (h:headEq x y=true):agreeB x y=(sameB partEq x.parts y.parts&&sameB methEq x.methods y.methods&&sameB overEq x.overs y.overs)/\x.parts.length=y.parts.length/\x.methods.length=y.methods.length/\x.overs.length=y.overs.length:=by
 unfold headEq at h;simp only [Bool.and_eq_true] at h;obtain ⟨⟨⟨⟨⟨⟨⟨⟨h1,h2⟩,h3⟩,h4⟩,h5⟩,h6⟩,h7⟩,h8⟩,h9⟩:=h;rw [<- beq_toListBytes] at h5 h6;refine ⟨by unfold agreeB plainEq; rw [h1,h2,h3,h4,h5,h6]; rfl,?_,?_,?_⟩
 ·rw [beq_iff_eq] at h7; omega
 ·rw [beq_iff_eq] at h8; omega
 ·rw [beq_iff_eq] at h9; omega
theorem agreeR127 (x y:Ty) (pa:Option Addr) (pl pc:Nat) (ma:Option Addr) (ml mc:Nat) (oa:Option Addr) (ol oc:Nat) (qa:Option Addr) (ql qc:Nat) (na:Option Addr) (nl nc:Nat) (xa:Option Addr) (xl xc:Nat) (w:World)
  (hp:Parts w (.slice pa pl pc) x.parts) (hm:Meths w (.slice ma ml mc) x.methods) (ho:Overs w (.slice oa ol oc) x.overs) (hq:Parts w (.slice qa ql qc) y.parts) (hn:Meths w (.slice na nl nc) y.methods) (hx:Overs w (.slice xa xl xc) y.overs) :
  Calls Tryz.prog 127 #[.agg (tyArr x pa pl pc ma ml mc oa ol oc),.agg (tyArr y qa ql qc na nl nc xa xl xc)] w fun e w'=>e=.returned (.bool (agreeB x y))/\Ext w w':=by
 have hpb:=(SlW.bound hp).2;have hmb:=(SlW.bound hm).2;have hob:=(SlW.bound ho).2;obtain rfl:=SlW.len hp;obtain rfl:=SlW.len hm;obtain rfl:=SlW.len ho;obtain rfl:=SlW.len hq;obtain rfl:=SlW.len hn;obtain rfl:=SlW.len hx;obtain ⟨W,hW⟩:∃ W:World,W=(w.alloc (.cells (tyArr x pa x.parts.length pc ma x.methods.length mc oa x.overs.length oc) 50)).alloc (.cells (tyArr y qa y.parts.length qc na y.methods.length nc xa y.overs.length xc) 50):=⟨_,rfl⟩;have HE:=dh (show Ext w W by rw [hW]; exact (Ext.alloc _ _).trans (Ext.alloc _ _));have HB:=dh (show W.heap[w.heap.size]? = some (.cells (tyArr x pa x.parts.length pc ma x.methods.length mc oa x.overs.length oc) 50 (0,0)) by rw [hW]; exact ((Ext.alloc _ _).block _ (by rw [World.size_alloc]; omega)).trans (heap_alloc_new _ _));have HB2:=dh (show W.heap[w.heap.size+1]? = some (.cells (tyArr y qa y.parts.length qc na y.methods.length nc xa y.overs.length xc) 50 (0,0)) by rw [hW]; exact heap_alloc2 _ _ _);have Hp:=dh (Parts.mono HE.out hp);have Hm:=dh (Meths.mono HE.out hm);have Ho:=dh (Overs.mono HE.out ho);have Hq:=dh (Parts.mono HE.out hq);have Hn:=dh (Meths.mono HE.out hn);have Hx:=dh (Overs.mono HE.out hx);clear hp hm ho hq hn hx
 go_enter Tryz.func127,Tryz.ntmps127
 go_upto_region 1 with (fail);rw [<- hW];clear hW;obtain ⟨b0,b1,b2,b3,b4,b5,b6,b7,b8,b9⟩:=tyBox_of HB.out;obtain ⟨d0,d1,d2,d3,d4,d5,d6,d7,d8,d9⟩:=tyBox_of HB2.out;go_cut [76] from 10 (fun v wx=>∃ bb:Bool,v=.bool bb/\Hid (bb=!headEq x y)/\Hid (Drew W wx))
 case first =>
  simp only [List.append_eq,List.cons_append,List.nil_append];cases h0:(x.kind==y.kind)
  ·have n0:=bne_of h0;rw [Bool.not_false] at n0;have hv:=dh (show headEq x y=false by unfold headEq; rw [h0]; rfl);go_wp2_with fail;go_meet;exact ⟨_,rfl,dh (by first | (rw [hv.out]; done) | (rw [hv.out]; rfl) | (rw [hv.out,n8]; done) | (rw [hv.out,n8]; rfl)),dh (Drew.refl W)⟩
  have n0:=bne_of h0;rw [Bool.not_true] at n0;cases h1:(x.low==y.low)
  ·have n1:=bne_of h1;rw [Bool.not_false] at n1;have hv:=dh (show headEq x y=false by unfold headEq; rw [h0,h1]; rfl);go_wp2_with fail;go_meet;exact ⟨_,rfl,dh (by first | (rw [hv.out]; done) | (rw [hv.out]; rfl) | (rw [hv.out,n8]; done) | (rw [hv.out,n8]; rfl)),dh (Drew.refl W)⟩
  have n1:=bne_of h1;rw [Bool.not_true] at n1;cases h2:(x.high==y.high)
  ·have n2:=bne_of h2;rw [Bool.not_false] at n2;have hv:=dh (show headEq x y=false by unfold headEq; rw [h0,h1,h2]; rfl);go_wp2_with fail;go_meet;exact ⟨_,rfl,dh (by first | (rw [hv.out]; done) | (rw [hv.out]; rfl) | (rw [hv.out,n8]; done) | (rw [hv.out,n8]; rfl)),dh (Drew.refl W)⟩
  have n2:=bne_of h2;rw [Bool.not_true] at n2;cases h3:(x.branded==y.branded)
  ·have n3:=bne_of h3;rw [Bool.not_false] at n3;have hv:=dh (show headEq x y=false by unfold headEq; rw [h0,h1,h2,h3]; rfl);go_wp2_with fail;go_meet;exact ⟨_,rfl,dh (by first | (rw [hv.out]; done) | (rw [hv.out]; rfl) | (rw [hv.out,n8]; done) | (rw [hv.out,n8]; rfl)),dh (Drew.refl W)⟩
  have n3:=bne_of h3;rw [Bool.not_true] at n3;cases h4:(x.brand.toList==y.brand.toList)
  ·have n4:=bne_of h4;rw [Bool.not_false] at n4;have hv:=dh (show headEq x y=false by unfold headEq; rw [h0,h1,h2,h3,h4]; rfl);go_wp2_with fail;go_meet;exact ⟨_,rfl,dh (by first | (rw [hv.out]; done) | (rw [hv.out]; rfl) | (rw [hv.out,n8]; done) | (rw [hv.out,n8]; rfl)),dh (Drew.refl W)⟩
  have n4:=bne_of h4;rw [Bool.not_true] at n4;cases h5:(x.opq.toList==y.opq.toList)
  ·have n5:=bne_of h5;rw [Bool.not_false] at n5;have hv:=dh (show headEq x y=false by unfold headEq; rw [h0,h1,h2,h3,h4,h5]; rfl);go_wp2_with fail;go_meet;exact ⟨_,rfl,dh (by first | (rw [hv.out]; done) | (rw [hv.out]; rfl) | (rw [hv.out,n8]; done) | (rw [hv.out,n8]; rfl)),dh (Drew.refl W)⟩
  have n5:=bne_of h5;rw [Bool.not_true] at n5;cases h6:((x.parts.length:Int)==(y.parts.length:Int))
  ·have n6:=bne_of h6;rw [Bool.not_false] at n6;have hv:=dh (show headEq x y=false by unfold headEq; rw [h0,h1,h2,h3,h4,h5,h6]; rfl);go_wp2_with fail;go_meet;exact ⟨_,rfl,dh (by first | (rw [hv.out]; done) | (rw [hv.out]; rfl) | (rw [hv.out,n8]; done) | (rw [hv.out,n8]; rfl)),dh (Drew.refl W)⟩
  have n6:=bne_of h6;rw [Bool.not_true] at n6;cases h7:((x.methods.length:Int)==(y.methods.length:Int))
  ·have n7:=bne_of h7;rw [Bool.not_false] at n7;have hv:=dh (show headEq x y=false by unfold headEq; rw [h0,h1,h2,h3,h4,h5,h6,h7]; rfl);go_wp2_with fail;go_meet;exact ⟨_,rfl,dh (by first | (rw [hv.out]; done) | (rw [hv.out]; rfl) | (rw [hv.out,n8]; done) | (rw [hv.out,n8]; rfl)),dh (Drew.refl W)⟩
  have n7:=bne_of h7;rw [Bool.not_true] at n7;cases h8:((x.overs.length:Int)==(y.overs.length:Int))
  ·have n8:=bne_of h8;rw [Bool.not_false] at n8;have hv:=dh (show headEq x y=false by unfold headEq; rw [h0,h1,h2,h3,h4,h5,h6,h7,h8]; rfl);go_wp2_with fail;go_meet;exact ⟨_,rfl,dh (by first | (rw [hv.out]; done) | (rw [hv.out]; rfl) | (rw [hv.out,n8]; done) | (rw [hv.out,n8]; rfl)),dh (Drew.refl W)⟩
  have n8:=bne_of h8;rw [Bool.not_true] at n8;have hv:=dh (show headEq x y=true by unfold headEq; rw [h0,h1,h2,h3,h4,h5,h6,h7,h8]; rfl);go_wp2_with fail;go_meet;exact ⟨_,rfl,dh (by first | (rw [hv.out]; done) | (rw [hv.out]; rfl) | (rw [hv.out,n8]; done) | (rw [hv.out,n8]; rfl)),dh (Drew.refl W)⟩
 case rest =>
  obtain ⟨bb,rfl,Hbb,HD⟩:=hcut;have HE1:=dh HD.out.ext;clear HD b0 b1 b2 b3 b4 b5 b6 d0 d1 d2 d3 d4 d5 d6;cases bb;rotate_left
  ·have Hf:=dh (head_no (show headEq x y=false by have:=Hbb.out; revert this; cases headEq x y <;> simp));go_wp2_with fail;go_ret;exact ⟨ret_bool Hf.out.symm,HE.out.trans HE1.out⟩
  obtain ⟨ha,l1,l2,l3⟩:=head_yes (show headEq x y=true by have:=Hbb.out; revert this; cases headEq x y <;> simp);have Ha:=dh ha;have L1:=dh l1;have L2:=dh l2;have L3:=dh l3;clear ha l1 l2 l3;go_upto_region 4 with (fail);go_loopw [5] (fun i wr=>∃ k:Nat,k<=x.parts.length/\i=.int .i64 k/\Hid (Ext W wr/\∀ j,j<k->partEq (nth x.parts j) (nth y.parts j)=true)) (fun i _=>x.parts.length-(intOf i).toNat)
  case atStart=>exact ⟨0,Nat.zero_le _,rfl,dh ⟨HE1.out,fun j hj=>absurd hj (Nat.not_lt_zero _)⟩⟩
  case round =>
   clear HE1;obtain ⟨k,hk,rfl,hH⟩:=hrel;have c7:=hH.out.1.cell b7;have e7:=hH.out.1.cell d7;by_cases hlt:k<x.parts.length
   ·have hly:k<y.parts.length:=by have:=L1.out; omega
    obtain ⟨b,off,hab,hbl,p0,_⟩:=Parts.at (Parts.mono hH.out.1 Hp.out) hlt;cases hab;obtain ⟨b2,off2,hab2,hbl2,q0,_⟩:=Parts.at (Parts.mono hH.out.1 Hq.out) hly;cases hab2;cases heq:partEq (nth x.parts k) (nth y.parts k)
    ·have Hf:=dh (show agreeB x y=false by rw [Ha.out,sameB_false L1.out hlt heq]; rfl);unfold partEq at heq;rw [beq_toListBytes] at heq;have hne:=bne_of heq;rw [Bool.not_false] at hne;go_upto_region 6 with (fail)
     go_quiet (fail)
     go_wp2_with fail;go_ret;exact ⟨ret_bool Hf.out.symm,HE.out.trans (below_drewN hH.out.1 _)⟩
    ·have HJ:=dh (show ∀ j,j<k+1->partEq (nth x.parts j) (nth y.parts j)=true from fun j hj=>by
      by_cases hjk:j=k
      ·rw [hjk]; exact heq
      ·exact hH.out.2 j (by omega))
     unfold partEq at heq;rw [beq_toListBytes] at heq;have hne:=bne_of heq;rw [Bool.not_true] at hne;go_upto_region 6 with (fail)
     go_quiet (fail)
     go_wp2_with fail;go_roundw
     case rel=>exact ⟨k+1,by omega,by go_num,dh ⟨below_drewN hH.out.1 _,HJ.out⟩⟩
     case measure=>simp [intOf]; omega
   ·have Ha2:=dh (show agreeB x y=(sameB methEq x.methods y.methods&&sameB overEq x.overs y.overs) by
     rw [Ha.out,sameB_true L1.out (fun j hj=>hH.out.2 j (by omega))]; rfl)
    have HE2:=dh hH.out.1;clear hH Ha;go_upto_region 9 with (fail);clear c7 e7;rename World=>W2;go_loopw [6,7,8] (fun i _ _ wr=>∃ k:Nat,k<=x.methods.length/\i=.int .i64 k/\Hid (Ext W wr/\∀ j,j<k->methEq (nth x.methods j) (nth y.methods j)=true)) (fun i _ _ _=>x.methods.length-(intOf i).toNat)
    case atStart=>exact ⟨0,Nat.zero_le _,rfl,dh ⟨HE2.out,fun j hj=>absurd hj (Nat.not_lt_zero _)⟩⟩
    case round =>
     clear HE2
     rename_i wr
     obtain ⟨k,hk,rfl,hH⟩:=hrel;have c8:=hH.out.1.cell b8;have e8:=hH.out.1.cell d8;by_cases hlt:k<x.methods.length
     ·have hly:k<y.methods.length:=by have:=L2.out; omega
      obtain ⟨b,off,aa,al,ac,ra,rl,rc,hab,hbl,m0,m1,m2,m3,m4,hia,hsr,_,_,_,_⟩:=Meths.at (Meths.mono hH.out.1 Hm.out) hlt;cases hab;obtain ⟨b2,off2,aa2,al2,ac2,ra2,rl2,rc2,hab2,hbl2,n0,n1,n2,n3,n4,hia2,hsr2,_,_,_,_⟩:=Meths.at (Meths.mono hH.out.1 Hn.out) hly;cases hab2;have Hal:=dh (SlW.len hia);have Hal2:=dh (SlW.len hia2);have Hsr:=dh hsr;have Hsr2:=dh hsr2;have HB:=dh (show agreeB x y=false\/methEq (nth x.methods k) (nth y.methods k)=true by
       cases h:methEq (nth x.methods k) (nth y.methods k)
       ·exact Or.inl (by rw [Ha2.out,sameB_false L2.out hlt h]; rfl)
       ·exact Or.inr rfl)
      have Hmk:=dh (show methEq (nth x.methods k) (nth y.methods k)=true->∀ j,j<k+1->methEq (nth x.methods j) (nth y.methods j)=true from fun h j hj=>by
       by_cases hjk:j=k
       ·rw [hjk]; exact h
       ·exact hH.out.2 j (by omega))
      have Hme:=dh (show methEq (nth x.methods k) (nth y.methods k)=((nth x.methods k).name.toList==(nth y.methods k).name.toList&&(nth x.methods k).proc.toList==(nth y.methods k).proc.toList&&(al:Int)==(al2:Int)&&(decide ((nth x.methods k).sig.result<0)==decide ((nth y.methods k).sig.result<0))&&sameB (fun (a b:BA)=>a==b) (nth x.methods k).sig.raises (nth y.methods k).sig.raises) by
       unfold methEq;rw [Hal.out,Hal2.out,<- beq_toListBytes,<- beq_toListBytes]
       congr 3
       rw [Bool.eq_iff_iff,beq_iff_eq,beq_iff_eq]; omega)
      obtain ⟨me,hme⟩:∃ me,me=nth x.methods k:=⟨_,rfl⟩;obtain ⟨mf,hmf⟩:∃ mf,mf=nth y.methods k:=⟨_,rfl⟩;rw [<- hme] at m0 m2 m4 Hsr Hme HB Hmk;rw [<- hmf] at n0 n2 n4 Hsr2 Hme HB Hmk;have hlt8:=cell_lt c8;have hlt9:=cell_lt e8;clear hia hia2 hsr hsr2 hme hmf;go_upto_region 13 with (fail);obtain ⟨W3,hW3⟩:∃ W3:World,W3=(wr.alloc (.cells #[.string me.name,.slice aa al ac,.int .i64 me.sig.result,.slice ra rl rc,.string me.proc] 88)).alloc (.cells #[.string mf.name,.slice aa2 al2 ac2,.int .i64 mf.sig.result,.slice ra2 rl2 rc2,.string mf.proc] 88):=⟨_,rfl⟩;rw [<- hW3];have hbx:W3.heap[wr.heap.size]? = some (.cells #[.string me.name,.slice aa al ac,.int .i64 me.sig.result,.slice ra rl rc,.string me.proc] 88 (0,0)):=by rw [hW3]; exact ((Ext.alloc _ _).block _ (by rw [World.size_alloc]; omega)).trans (heap_alloc_new _ _)
      have hby:W3.heap[wr.heap.size+1]? = some (.cells #[.string mf.name,.slice aa2 al2 ac2,.int .i64 mf.sig.result,.slice ra2 rl2 rc2,.string mf.proc] 88 (0,0)):=by rw [hW3]; exact heap_alloc2 _ _ _
      have HE3:=dh (show Ext wr W3 by rw [hW3]; exact (Ext.alloc _ _).trans (Ext.alloc _ _));clear m0 m1 m2 m3 m4 n0 n1 n2 n3 n4 c8 e8 hW3;have m0:=cell_of_heap hbx (j:=0) rfl;have m1:=cell_of_heap hbx (j:=1) rfl;have m2:=cell_of_heap hbx (j:=2) rfl;have m3:=cell_of_heap hbx (j:=3) rfl;have m4:=cell_of_heap hbx (j:=4) rfl;have n0:=cell_of_heap hby (j:=0) rfl;have n1:=cell_of_heap hby (j:=1) rfl;have n2:=cell_of_heap hby (j:=2) rfl;have n3:=cell_of_heap hby (j:=3) rfl;have n4:=cell_of_heap hby (j:=4) rfl;clear hbx hby;cases r0:(me.name.toList==mf.name.toList)
      ·have s0:=bne_of r0;rw [Bool.not_false] at s0;have Hf:=dh (HB.out.resolve_right (by rw [Hme.out,r0]; simp));go_wp2_with fail;go_ret;exact ⟨ret_bool Hf.out.symm,HE.out.trans (hH.out.1.trans HE3.out)⟩
      have s0:=bne_of r0;rw [Bool.not_true] at s0;cases r1:(me.proc.toList==mf.proc.toList)
      ·have s1:=bne_of r1;rw [Bool.not_false] at s1;have Hf:=dh (HB.out.resolve_right (by rw [Hme.out,r0,r1]; simp));go_wp2_with fail;go_ret;exact ⟨ret_bool Hf.out.symm,HE.out.trans (hH.out.1.trans HE3.out)⟩
      have s1:=bne_of r1;rw [Bool.not_true] at s1;cases r2:((al:Int)==(al2:Int))
      ·have s2:=bne_of r2;rw [Bool.not_false] at s2;have Hf:=dh (HB.out.resolve_right (by rw [Hme.out,r0,r1,r2]; simp));go_wp2_with fail;go_ret;exact ⟨ret_bool Hf.out.symm,HE.out.trans (hH.out.1.trans HE3.out)⟩
      have s2:=bne_of r2;rw [Bool.not_true] at s2;have Hme2:=dh (show methEq me mf=((decide (me.sig.result<0)==decide (mf.sig.result<0))&&sameB (fun (a b:BA)=>a==b) me.sig.raises mf.sig.raises) by rw [Hme.out,r0,r1,r2]; simp);rcases Int.lt_or_le me.sig.result 0 with h1 | h1
      ·rcases Int.lt_or_le mf.sig.result 0 with h2 | h2
       ·have Hme3:=dh (show methEq me mf=sameB (fun (a b:BA)=>a==b) me.sig.raises mf.sig.raises by rw [Hme2.out,decide_eq_true h1,decide_eq_true h2]; rfl);go_wp2_with fail;refine (sameStr162 _ _ _ _ _ _ _ _ _ (Strs.mono HE3.out Hsr.out) (Strs.mono HE3.out Hsr2.out)).mono ?_;rintro e w4 ⟨rfl,hD⟩;have HE4:=dh ((hH.out.1.trans HE3.out).trans hD.ext);clear hD;generalize sameB (fun (a b:BA)=>a==b) me.sig.raises mf.sig.raises=sb at Hme3;cases sb
        ·have Hf:=dh (HB.out.resolve_right (by rw [Hme3.out]; simp));go_wp2_with fail;go_ret;exact ⟨ret_bool Hf.out.symm,HE.out.trans HE4.out⟩
        have HJ:=dh (Hmk.out (by rw [Hme3.out]));go_wp2_with fail;go_roundw
        case rel=>exact ⟨k+1,by omega,by go_num,dh ⟨HE4.out,HJ.out⟩⟩
        case measure=>simp [intOf]; omega
       ·have Hf:=dh (HB.out.resolve_right (by rw [Hme2.out,decide_eq_true h1,decide_eq_false (show ¬ mf.sig.result<0 by omega)]; simp));go_wp2_with fail;go_ret;exact ⟨ret_bool Hf.out.symm,HE.out.trans (hH.out.1.trans HE3.out)⟩
      ·rcases Int.lt_or_le mf.sig.result 0 with h2 | h2
       ·have Hf:=dh (HB.out.resolve_right (by rw [Hme2.out,decide_eq_true h2,decide_eq_false (show ¬ me.sig.result<0 by omega)]; simp));go_wp2_with fail;go_ret;exact ⟨ret_bool Hf.out.symm,HE.out.trans (hH.out.1.trans HE3.out)⟩
       ·have Hme3:=dh (show methEq me mf=sameB (fun (a b:BA)=>a==b) me.sig.raises mf.sig.raises by rw [Hme2.out,decide_eq_false (show ¬ me.sig.result<0 by omega),decide_eq_false (show ¬ mf.sig.result<0 by omega)]; rfl);go_wp2_with fail;refine (sameStr162 _ _ _ _ _ _ _ _ _ (Strs.mono HE3.out Hsr.out) (Strs.mono HE3.out Hsr2.out)).mono ?_;rintro e w4 ⟨rfl,hD⟩;have HE4:=dh ((hH.out.1.trans HE3.out).trans hD.ext);clear hD;generalize sameB (fun (a b:BA)=>a==b) me.sig.raises mf.sig.raises=sb at Hme3;cases sb
        ·have Hf:=dh (HB.out.resolve_right (by rw [Hme3.out]; simp));go_wp2_with fail;go_ret;exact ⟨ret_bool Hf.out.symm,HE.out.trans HE4.out⟩
        have HJ:=dh (Hmk.out (by rw [Hme3.out]));go_wp2_with fail;go_roundw
        case rel=>exact ⟨k+1,by omega,by go_num,dh ⟨HE4.out,HJ.out⟩⟩
        case measure=>simp [intOf]; omega
     ·have Ha3:=dh (show agreeB x y=sameB overEq x.overs y.overs by
       rw [Ha2.out,sameB_true L2.out (fun j hj=>hH.out.2 j (by omega))]; rfl)
      have HE2:=dh hH.out.1;clear hH Ha2;go_upto_region 16 with (fail);clear c8 e8;rename World=>W3;go_loopw [9] (fun i wr=>∃ k:Nat,k<=x.overs.length/\i=.int .i64 k/\Hid (Ext W wr/\∀ j,j<k->overEq (nth x.overs j) (nth y.overs j)=true)) (fun i _=>x.overs.length-(intOf i).toNat)
      case atStart=>exact ⟨0,Nat.zero_le _,rfl,dh ⟨HE2.out,fun j hj=>absurd hj (Nat.not_lt_zero _)⟩⟩
      case round =>
       clear HE2;obtain ⟨k,hk,rfl,hH⟩:=hrel;have c9:=hH.out.1.cell b9;have e9:=hH.out.1.cell d9;by_cases hlt:k<x.overs.length
       ·have hly:k<y.overs.length:=by have:=L3.out; omega
        obtain ⟨b,off,hab,hbl,p0,p1,_⟩:=Overs.at (Overs.mono hH.out.1 Ho.out) hlt;cases hab;obtain ⟨b2,off2,hab2,hbl2,q0,q1,_⟩:=Overs.at (Overs.mono hH.out.1 Hx.out) hly;cases hab2;cases heq:overEq (nth x.overs k) (nth y.overs k)
        ·have Hf:=dh (show agreeB x y=false by rw [Ha3.out,sameB_false L3.out hlt heq]);have hqb:(¬ (nth x.overs k).name.toList=(nth y.overs k).name.toList)\/((nth x.overs k).name.toList=(nth y.overs k).name.toList/\¬ (nth x.overs k).proc.toList=(nth y.overs k).proc.toList):=by
          unfold overEq at heq; rw [ba_eq_list,ba_eq_list] at heq;by_cases h1:(nth x.overs k).name.toList=(nth y.overs k).name.toList <;> simp_all
         clear heq;rcases hqb with hqb | ⟨hqa,hqb⟩
         all_goals go_upto_region 18 with (fail)
         all_goals go_quiet (fail)
         all_goals go_wp2_with fail
         all_goals go_ret
         all_goals exact ⟨ret_bool Hf.out.symm,HE.out.trans (below_drewN hH.out.1 _)⟩
        ·have HJ:=dh (show ∀ j,j<k+1->overEq (nth x.overs j) (nth y.overs j)=true from fun j hj=>by
          by_cases hjk:j=k
          ·rw [hjk]; exact heq
          ·exact hH.out.2 j (by omega))
         have hqb:(nth x.overs k).name.toList=(nth y.overs k).name.toList/\(nth x.overs k).proc.toList=(nth y.overs k).proc.toList:=by
          unfold overEq at heq; rw [ba_eq_list,ba_eq_list] at heq; simpa using heq
         obtain ⟨hqa,hqb⟩:=hqb;clear heq;go_upto_region 18 with (fail)
         go_quiet (fail)
         go_wp2_with fail;go_roundw
         case rel=>exact ⟨k+1,by omega,by go_num,dh ⟨below_drewN hH.out.1 _,HJ.out⟩⟩
         case measure=>simp [intOf]; omega
       ·have Hf:=dh (show agreeB x y=true by rw [Ha3.out,sameB_true L3.out (fun j hj=>hH.out.2 j (by omega))]);go_wp2_with fail;go_ret;exact ⟨ret_bool Hf.out.symm,HE.out.trans hH.out.1⟩
end
end Go.Proofs.YtjffkeoajkhbmaaGreat
