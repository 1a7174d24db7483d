/- The reference's CheckDerive and Steps. The law SubDerives: in plain Lean, and walked. How the data of a call read as graphs and revelations. What joins a law to its row: the arguments opened. How the data of a call read as steps. The law SubDerives holds: for every input it answers true, and its arguments read as before. -/
import Derived.ProofKit
import Derived.SizedLaws
import Derived.Test.YtjffkeoajkhbmaaGreatRows
import Derived.OpenShut
import Derived.ShutString
import Derived.ChangeOld
import Derived.Below
import Derived.Carry
import Derived.Test.YtjffkeoajkhbmaaGreatOW0
import Derived.Test.YtjffkeoajkhbmaaGreatOW21
import Derived.Test.YtjffkeoajkhbmaaGreatOW36
import Derived.Test.YtjffkeoajkhbmaaGreatOW38
namespace Go.Proofs.YtjffkeoajkhbmaaGreat
set_option linter.unusedSimpArgs false
set_option linter.unusedVariables false
set_option maxRecDepth 100000
set_option maxHeartbeats 8000000
section
open Go.RowKit Go.Proofs
theorem chain_check {st:Nat->List Stp} {b:Nat}:∀ {l:List Stp} {a:Nat},Chain st a l b->checkD st a (l.map Stp.toI)=some b
 | [],a,h=>by
  have h:a=b:=h;subst h; rfl
 | s :: l,a,h=>by
  simp only [List.map_cons,checkD];rw [if_pos (List.any_eq_true.2 ⟨s,h.1,decide_eq_true rfl⟩)];exact chain_check h.2
theorem check_chain {st:Nat->List Stp} {b:Nat}:∀ {L:List IStp} {a:Nat},checkD st a L=some b->∃ l,Chain st a l b/\l.length=L.length
 | [],a,h=>by
  simp only [checkD] at h;cases h;exact ⟨[],rfl,rfl⟩
 | s :: L,a,h=>by
  simp only [checkD] at h;split at h
  ·rename_i hy
   obtain ⟨y,h1,h2⟩:=List.any_eq_true.1 hy;have h2:=of_decide_eq_true h2;have h3:s.to_.toNat=y.to_:=by rw [<- h2]; rfl
   rw [h3] at h;obtain ⟨l,h4,h5⟩:=check_chain h;exact ⟨y :: l,⟨h1,h4⟩,by simp [h5]⟩
  ·cases h
theorem Path.cons {succ:Nat->List Nat} {a c:Nat} (hc:c∈succ a):∀ {k b:Nat},Path succ c k b->Path succ a (k+1) b
 | 0,b,h=>by
  have h:b=c:=h;subst h; exact ⟨a,rfl,hc⟩
 | _+1,_,⟨d,h1,h2⟩=>⟨d,Path.cons hc h1,h2⟩
theorem Chain.path {st:Nat->List Stp} {b:Nat}:∀ {l:List Stp} {a:Nat},Chain st a l b->Path (succS st) a l.length b
 | [],_,h=>by
  have h:_=b:=h;exact h.symm
 | s :: _,_,h=>Path.cons (List.mem_map.2 ⟨s,h.1,rfl⟩) (Chain.path h.2)
theorem Path.chain {st:Nat->List Stp} {a:Nat}:∀ {k b:Nat},Path (succS st) a k b->∃ l,Chain st a l b/\l.length=k
 | 0,b,h=>by
  have h:b=a:=h;subst h; exact ⟨[],rfl,rfl⟩
 | k+1,b,⟨c,h1,h2⟩=>by
  obtain ⟨l,h3,h4⟩:=Path.chain h1;obtain ⟨s,h5,rfl⟩:=List.mem_map.1 h2;exact ⟨l++[s],Chain.snoc h5 h3,by simp [h4]⟩
theorem checkDeriveG {W:World} {vb:Nat} {g:List Ty} {rs:List Reveal} (h:EnvG W vb g rs) (a b:Int) (hx:I64 a) (hy:I64 b) (p:Option Addr) (n c:Nat) (L:List IStp) (hL:StepsW W (.slice p n c) L) :
  Calls Tryz.prog 37 #[.pointer (some ⟨vb,0,none⟩),.int .i64 a,.int .i64 b,.slice p n c] W fun e w'=>e=.returned (.tuple #[.bool (checkQ g rs a b L),.int .i64 (askedR g.length [a,b])])/\Ext W w':=by
 obtain ⟨hop,D,hv,hD⟩:=h;obtain ⟨_,h400,h60,hr,hbad⟩:=opens hop;have hnb:=(SlW.bound hL).2;obtain rfl:=SlW.len hL;obtain ⟨ga,gc,h0⟩:=hv.graph;have hcall:=dh (askedR49 vb ga g.length gc h400 _ 2 2 [a,b] _ ((Ext.alloc _ _).cell h0) (ints_two W a b hx hy));have Hv:=dh hv.1;have HL:=dh hL;have Hs:=dh (succ_ok hop);have Hr:=dh (show ∀ x,x<g.length->hasSuperB (nth g x).kind=true->0<=(nth g x).super from fun x hx hs=>(right_super (hr x hx) hs).1);have Hrt:=dh (show ∀ k,k<rs.length->0<=(nth rs k).type from fun k hk=>(rev_in (hbad k hk)).1);obtain ⟨er,her⟩:∃ er,er=askedR g.length [a,b]:=⟨_,rfl⟩;obtain ⟨q,hq⟩:∃ q,q=checkQ g rs a b L:=⟨_,rfl⟩;rw [<- her,<- hq];rw [<- her] at hcall;have Her:=dh her;have Hq:=dh hq;clear hv hL her hq hbad hr hD
 go_enter Tryz.func37,Tryz.ntmps37
 go_wp2_with fail;refine hcall.out.mono ?_;rintro e w1 ⟨rfl,hE⟩;have HE:=dh ((Ext.alloc _ _).trans hE);clear hE hcall h0;have h01:er=0\/er=1:=by rw [Her.out]; exact asked01 _ _
 by_cases h1:er=1
 ·have Hf:=dh (show q=false by rw [Hq.out]; unfold checkQ; rw [if_neg (fun h=>by rw [<- Her.out,h1] at h; exact absurd h.1 (by decide))]);subst h1;clear h01;go_wp2_with fail;go_ret2;exact ⟨by rw [Hf.out]; rfl,HE.out⟩
 have h2:er=0:=by omega
 obtain ⟨x,y,hax,hby,hxn,hyn⟩:=two_in (Her.out.symm.trans h2);subst hax hby;by_cases hlen:L.length<=1000;rotate_left
 ·have Hf:=dh (show q=false by rw [Hq.out]; unfold checkQ; rw [if_neg (fun h=>hlen h.2)]);have hgt:(1000:Int)<L.length:=by omega
  subst h2;clear h01 h1;go_wp2_with fail;go_ret2;exact ⟨by rw [Hf.out]; rfl,HE.out⟩
 have Hq2:=dh (show q=checkS (stF g (classesOf g) rs) x L y by rw [Hq.out]; unfold checkQ; rw [if_pos ⟨Her.out.symm.trans h2,hlen⟩]; rfl);have hgt:¬ (1000:Int)<L.length:=by omega
 subst h2;clear h01 h1;go_upto_region 7 with (fail);go_loopw [1,11] (fun av iv wx=>∃ k z:Nat,k<=L.length/\z<g.length/\av=.int .i64 z/\iv=.int .i64 k/\Hid (Ext W wx/\checkD (stF g (classesOf g) rs) x (L.take k)=some z)) (fun _ iv _=>L.length-(intOf iv).toNat)
 case atStart=>exact ⟨0,x,Nat.zero_le _,hxn,rfl,rfl,dh ⟨HE.out,by rw [List.take_zero]; rfl⟩⟩
 case round =>
  clear HE;obtain ⟨k,z,hk,hz,rfl,rfl,hH⟩:=hrel;have HE:=dh hH.out.1;have Hck:=dh hH.out.2;clear hH;by_cases hlt:k<L.length
  ·obtain ⟨b2,off,hab,hbl,c0,c1,c2,hlo,hhi⟩:=StepsW.at (StepsW.mono HE.out HL.out) hlt;cases hab;have Htk:=dh (checkD_take hlt Hck.out);obtain ⟨s,hs⟩:∃ s,s=nth L k:=⟨_,rfl⟩;rw [<- hs] at c0 c1 c2 hlo hhi Htk;clear hs;go_wp2_with fail;refine (rightI72 vb _ (Hv.out.mono HE.out) h400 hz (Hs.out z hz) (Hr.out z hz) Hrt.out s).mono ?_;rintro e w2 ⟨rfl,hE⟩;have HE2:=dh (HE.out.trans hE);have c1:=hE.cell c1;clear hE c0 c2;obtain ⟨bb,hbb⟩:∃ bb,bb=((stepsL g (classesOf g) rs z).any fun y=>decide (y.toI=s)):=⟨_,rfl⟩;rw [<- hbb];have Hbb:=dh hbb;clear hbb;cases bb
   ·have Hf:=dh (show q=false by
     rw [Hq2.out];unfold checkS;rw [Htk.out.2 Hbb.out.symm]; rfl)
    go_wp2_with fail;go_ret2;exact ⟨by rw [Hf.out]; rfl,HE2.out⟩
   ·obtain ⟨y2,hy1,hy2⟩:=any_iff.1 Hbb.out.symm;have hto:s.to_=(y2.to_:Int):=by rw [<- hy2]; rfl
    have hyl:=ok_lt (Hs.out z hz) hy1;have Hck2:=dh (show checkD (stF g (classesOf g) rs) x (L.take (k+1))=some y2.to_ by
     rw [Htk.out.1,if_pos Hbb.out.symm,hto,Int.toNat_natCast])
    rw [hto] at c1;clear hy1 hy2 hto hlo hhi;generalize y2.to_=z2 at hyl Hck2 c1;go_wp2_with fail;go_roundw
    case rel=>exact ⟨k+1,z2,by omega,hyl,rfl,by go_num,dh ⟨HE2.out,Hck2.out⟩⟩
    case measure=>simp [intOf]; omega
  ·have Hf:=dh (show q=((z:Int)==(y:Int)) by
    rw [Hq2.out];unfold checkS;have:=Hck.out;rw [List.take_of_length_le (by omega)] at this;rw [this,Bool.eq_iff_iff,beq_iff_eq,beq_iff_eq];constructor
    ·intro h; cases h; rfl
    ·intro h; rw [show z=y by omega])
   go_wp2_with fail;go_ret2;exact ⟨by rw [Hf.out]; rfl,HE.out⟩
theorem stepsR39 {W:World} {vb:Nat} {g:List Ty} {rs:List Reveal} {C:Nat->Nat} {D:Nat->Nat->Int} (hv:EnvF W vb g rs C D) (a b:Nat) (ha:a<g.length) (hb:b<g.length) :
  Calls Tryz.prog 39 #[.pointer (some ⟨vb,0,none⟩),.int .i64 a,.int .i64 b] W fun e w'=>e=.returned (.int .i64 (D a b))/\Ext W w':=by
 obtain ⟨fb,fo,fc,row,c3,cr,cd⟩:=hv.rows (by omega);have c1:=cr a ha;have c2:=cd a ha b hb;clear cr cd hv
 go_enter Tryz.func39,Tryz.ntmps39
 go_wp2_with fail;go_ret;exact ⟨rfl,Ext.refl _⟩
end
section
open Go.RowKit Go.Proofs Go.Shelf
theorem derives_law {g:List Ty} {rs:List Reveal} (h:openE g rs=0) {D:Nat->Nat->Int} (hD:∀ a,a<g.length->FarOk g.length (succF g (classesOf g) rs) a (D a)) {a b:Nat} (ha:a<g.length) (hb:b<g.length) :
  ((deriveQ g rs a b).1=true->0<=D a b/\(((deriveQ g rs a b).2.length:Nat):Int)=D a b/\checkQ g rs a b ((deriveQ g rs a b).2.map Stp.toI)=true) /\
  ((deriveQ g rs a b).1=false->D a b<0/\(deriveQ g rs a b).2=[])/\∀ L,checkQ g rs a b L=true->0<=D a b/\D a b<=L.length:=by
 have hs:∀ x,x<g.length->∀ s,s∈stF g (classesOf g) rs x->s.to_<g.length:=fun x hx s hm=>succ_ok h x hx _ (List.mem_map.2 ⟨s,hm,rfl⟩);have hdn:=discN_done ha hs;have hask:=asked_two ha hb;have hq:deriveQ g rs a b=(deriveB a (stF g (classesOf g) rs) g.length b,deriveL a (stF g (classesOf g) rs) g.length b):=by
  unfold deriveQ;rw [if_pos hask]; rfl
 rw [hq];have hf:=hD a ha b hb;have far_of:∀ l,Chain (stF g (classesOf g) rs) a l b->0<=D a b/\D a b<=l.length:=fun l hl=>hf.2.2 _ (Chain.path hl);refine ⟨fun hi=>?_,fun hi=>?_,fun L hL=>?_⟩
 ·have hi:metB a (discN a (stF g (classesOf g) rs) g.length) b=true:=hi;have hch:Chain (stF g (classesOf g) rs) a (deriveL a (stF g (classesOf g) rs) g.length b) b:=by
   refine back_chain hdn.good ?_;rcases (metB_iff _ _ _).1 hi with e | ⟨d,hd,e⟩
   ·exact Or.inl e
   ·exact Or.inr ⟨d,by simpa using hd,e⟩
  have h1:=far_of _ hch;obtain ⟨l,hl,hll⟩:=Path.chain (hf.2.1 h1.1);have h2:=hdn.far l b hl;have h3:dep (discN a (stF g (classesOf g) rs) g.length) b=(deriveL a (stF g (classesOf g) rs) g.length b).length:=by
   unfold dep deriveL; rw [List.length_reverse]
  have hlen:(deriveL a (stF g (classesOf g) rs) g.length b).length<=g.length:=by
   rw [<- h3];have:=back_len (discN a (stF g (classesOf g) rs) g.length).reverse b;rw [List.length_reverse] at this;exact Nat.le_trans this (disc_len ha hs)
  have h400:=(opens h).2.1;refine ⟨h1.1,?_,?_⟩
  ·show ((deriveL a (stF g (classesOf g) rs) g.length b).length:Int)=D a b
   omega
  ·unfold checkQ;rw [if_pos ⟨hask,by rw [List.length_map]; show (deriveL a (stF g (classesOf g) rs) g.length b).length<=1000; omega⟩];unfold checkS;show (checkD _ _ ((deriveL a (stF g (classesOf g) rs) g.length b).map Stp.toI)==some b)=true
   rw [show ((a:Int).toNat)=a from rfl,chain_check hch];simp
 ·have hi:metB a (discN a (stF g (classesOf g) rs) g.length) b=false:=hi;have hno:¬ 0<=D a b:=fun h0=>by
   have:=(hdn.all b).2 (hf.2.1 h0).reach;rw [hi] at this; cases this
  refine ⟨by omega,?_⟩;show (back (discN a (stF g (classesOf g) rs) g.length).reverse b).reverse=[]
  rw [back_none (fun d hd e=>by
   rw [(metB_iff _ _ _).2 (Or.inr ⟨d,by simpa using hd,e⟩)] at hi; cases hi)]
  rfl
 ·unfold checkQ at hL;split at hL
  ·unfold checkS at hL;rw [beq_iff_eq] at hL;obtain ⟨l,h1,h2⟩:=check_chain hL;have:=far_of l h1;rw [h2] at this;exact this
  ·cases hL
theorem derive_bad {g:List Ty} {rs:List Reveal} {a b:Int} (h:askedR g.length [a,b]=1):deriveQ g rs a b=(false,[]):=by
 unfold deriveQ;rw [if_neg (by rw [h]; decide)]
theorem subDerives10 (ga:Option Addr) (gn gc:Nat) (g:List Ty) (ra:Option Addr) (rn rc:Nat) (rs:List Reveal) (a b:Int) (sa:Option Addr) (sn sc:Nat) (L:List IStp) (w:World) (hg:Graph w (.slice ga gn gc) g) (hre:Reveals w (.slice ra rn rc) rs) (hx:I64 a) (hy:I64 b) (hL:StepsW w (.slice sa sn sc) L) :
  Calls Tryz.prog 10 #[.slice ga gn gc,.slice ra rn rc,.int .i64 a,.int .i64 b,.slice sa sn sc] w (Holds w):=by
 have Hg:=dh hg;have Hre:=dh hre;have Hx:=dh hx;have Hy:=dh hy;have Hsn:=dh (SlW.len hL);have HL:=dh hL;clear hg hre hx hy hL
 go_enter Tryz.func10,Tryz.ntmps10
 go_upto_region 1 with (fail);go_cut [48] from 26 (fun v wx=>∃ bb:Bool,v=.bool bb/\Hid (Ext w wx))
 case first =>
  go_wp2_with fail;refine (little13 _ _ _ g w Hg.out).mono ?_;rintro e w1 ⟨bl,rfl,hE,hl⟩;have HE:=dh hE;clear hE hl;cases bl
  ·go_wp2_with fail;go_meet;exact ⟨_,rfl,HE⟩
  go_wp2_with fail;refine (few14 _ _ _ rs w1 (Reveals.mono HE.out Hre.out)).mono ?_;rintro e w2 ⟨bf,rfl,hE,hf⟩;have HE:=dh (HE.out.trans hE);clear hE hf;cases bf
  ·go_wp2_with fail;go_meet;exact ⟨_,rfl,HE⟩
  by_cases h30:(30:Int)<sn
  ·by_cases h1000:(sn:Int)<=1000
   ·go_wp2_with fail;go_meet;exact ⟨_,rfl,HE⟩
   ·go_wp2_with fail;go_meet;exact ⟨_,rfl,HE⟩
  ·go_wp2_with fail;go_meet;exact ⟨_,rfl,HE⟩
 case rest =>
  obtain ⟨bb,rfl,HE⟩:=hcut;cases bb;rotate_left
  ·go_wp2_with fail;refine (ordered15 _).mono ?_;rintro e wN ⟨rfl,hE⟩;have HE:=dh (HE.out.trans hE);clear hE;go_wp2_with fail;go_ret;exact ⟨rfl,HE.out⟩
  go_wp2_with fail;refine (both16 _ _ _ g _ _ _ rs _ (Graph.mono HE.out Hg.out) (Reveals.mono HE.out Hre.out)).mono ?_;rintro e w3 ⟨hE,(⟨h0,vb,vr,rfl,hA,hG⟩ | ⟨h0,rfl⟩)⟩;rotate_left
  ·have HE:=dh (HE.out.trans hE);clear hE h0;go_wp2_with fail;refine (ordered15 _).mono ?_;rintro e wN ⟨rfl,hE⟩;have HE:=dh (HE.out.trans hE);clear hE;go_wp2_with fail;go_ret;exact ⟨rfl,HE.out⟩
  have HE:=dh (HE.out.trans hE);have HA:=dh hA;have HG:=dh hG;have H0:=dh h0;clear hE hA hG h0;go_wp2_with fail;refine (checkDeriveA HA.out a b Hx.out Hy.out _ _ _ L (StepsW.mono HE.out HL.out)).mono ?_;rintro e w4 ⟨rfl,hE⟩;have HE:=dh (HE.out.trans hE);have HA:=dh (HA.out.mono hE);have HG:=dh (HG.out.mono hE);clear hE;go_wp2_with fail;refine (checkDeriveG HG.out a b Hx.out Hy.out _ _ _ L (StepsW.mono HE.out HL.out)).mono ?_;rintro e w5 ⟨rfl,hE⟩;have HE:=dh (HE.out.trans hE);have HA:=dh (HA.out.mono hE);have HG:=dh (HG.out.mono hE);clear hE;go_wp2_with fail;refine (deriveA HA.out a b Hx.out Hy.out).mono ?_;rintro e w6 ⟨oa,on,oc,rfl,ho,hE⟩;have HE:=dh (HE.out.trans hE);have HA:=dh (HA.out.mono hE);have HG:=dh (HG.out.mono hE);have Hon:=dh (SlW.len ho);have HO:=dh ho;clear hE ho;obtain ⟨er,her⟩:∃ er,er=askedR g.length [a,b]:=⟨_,rfl⟩;obtain ⟨q,hq⟩:∃ q,q=checkQ g rs a b L:=⟨_,rfl⟩;obtain ⟨is,his⟩:∃ is,is=(deriveQ g rs a b).1:=⟨_,rfl⟩;rw [<- her,<- hq,<- his];have Her:=dh her;have Hq:=dh hq;have His:=dh his;have n1:(q != q)=false:=by simp
  have n2:(er != er)=false:=by simp
  clear her hq his;have h01:er=0\/er=1:=by rw [Her.out]; exact asked01 _ _
  by_cases h1:er=1
  ·have hbad:=derive_bad (rs:=rs) (Her.out.symm.trans h1);have hi:is=false:=by rw [His.out,hbad]
   have hon:on=0:=by
    have:=Hon.out;rw [hbad] at this;exact this
   subst h1 hi hon;clear h01 hbad;go_wp2_with fail;refine (ordered15 _).mono ?_;rintro e wN ⟨rfl,hE⟩;have HE:=dh (HE.out.trans hE);clear hE;go_wp2_with fail;go_ret;exact ⟨rfl,HE.out⟩
  have h2:er=0:=by omega
  obtain ⟨x,y,hax,hby,hxn,hyn⟩:=two_in (Her.out.symm.trans h2);subst hax hby;subst h2;clear h01 h1;obtain ⟨_,D,hF,hD⟩:=HG.out;obtain ⟨l1,l2,l3⟩:=derives_law H0.out hD hxn hyn;have Hl1:=dh l1;have Hl2:=dh l2;have Hl3:=dh (l3 L);have HF:=dh hF;clear l1 l2 l3 hF hD;go_wp2_with fail;refine (stepsR39 HF.out x y hxn hyn).mono ?_;rintro e w7 ⟨rfl,hE⟩;have HE:=dh (HE.out.trans hE);have HA:=dh (HA.out.mono hE);have HG:=dh (HG.out.mono hE);have HO:=dh (StepsW.mono hE HO.out);clear hE HF;cases is
  ·have hl:=Hl2.out His.out.symm;have hq:q=false:=by
    cases hq:q
    ·rfl
    ·have:=Hl3.out (by rw [<- Hq.out]; exact hq);omega
   have hon:on=0:=by
    have:=Hon.out;rw [hl.2] at this;exact this
   have hd1:¬ 0<=D x y:=by omega
   have hd2:decide (0<=D x y)=false:=decide_eq_false hd1;subst hq hon;clear hl;go_wp2_with fail;refine (ordered15 _).mono ?_;rintro e wN ⟨rfl,hE⟩;have HE:=dh (HE.out.trans hE);clear hE;go_wp2_with fail;go_ret;exact ⟨rfl,HE.out⟩
  ·have hl:=Hl1.out His.out.symm;have hd2:decide (0<=D x y)=true:=decide_eq_true hl.1;have hd1:=hl.1;have hon:(on:Int)=D x y:=by
    have:=Hon.out;rw [List.length_map] at this;rw [this]; exact hl.2.1
   have Hck:=dh hl.2.2;have hlen:q=true->¬ (sn:Int)<D x y:=fun h=>by
    have h1:=Hl3.out (by rw [<- Hq.out]; exact h);have:=Hsn.out;omega
   have Hon2:=dh hon;have hask:askedR g.length [(x:Int),(y:Int)]=0:=Her.out.symm;have Hask:=dh hask;clear hl hon hask;cases q
   ·clear hlen;go_wp2_with fail;have hcg:=checkDeriveG HG.out x y Hx.out Hy.out _ _ _ _ HO.out;rw [Hck.out,Hask.out] at hcg;refine hcg.mono ?_;clear hcg;rintro e w8 ⟨rfl,hE⟩;have HE:=dh (HE.out.trans hE);have HA:=dh (HA.out.mono hE);have HO:=dh (StepsW.mono hE HO.out);clear hE;go_wp2_with fail;have hcg:=checkDeriveA HA.out x y Hx.out Hy.out _ _ _ _ HO.out;rw [Hck.out,Hask.out] at hcg;refine hcg.mono ?_;clear hcg;rintro e w9 ⟨rfl,hE⟩;have HE:=dh (HE.out.trans hE);clear hE;have heq:((on:Int)==D x y)=true:=by rw [beq_iff_eq]; exact Hon2.out
    go_wp2_with fail;refine (ordered15 _).mono ?_;rintro e wN ⟨rfl,hE⟩;have HE:=dh (HE.out.trans hE);clear hE;go_wp2_with fail;go_ret;exact ⟨rfl,HE.out⟩
   ·have hlt:=hlen rfl;clear hlen;go_wp2_with fail;have hcg:=checkDeriveG HG.out x y Hx.out Hy.out _ _ _ _ HO.out;rw [Hck.out,Hask.out] at hcg;refine hcg.mono ?_;clear hcg;rintro e w8 ⟨rfl,hE⟩;have HE:=dh (HE.out.trans hE);have HA:=dh (HA.out.mono hE);have HO:=dh (StepsW.mono hE HO.out);clear hE;go_wp2_with fail;have hcg:=checkDeriveA HA.out x y Hx.out Hy.out _ _ _ _ HO.out;rw [Hck.out,Hask.out] at hcg;refine hcg.mono ?_;clear hcg;rintro e w9 ⟨rfl,hE⟩;have HE:=dh (HE.out.trans hE);clear hE;have heq:((on:Int)==D x y)=true:=by rw [beq_iff_eq]; exact Hon2.out
    go_wp2_with fail;refine (ordered15 _).mono ?_;rintro e wN ⟨rfl,hE⟩;have HE:=dh (HE.out.trans hE);clear hE;go_wp2_with fail;go_ret;exact ⟨rfl,HE.out⟩
end
section
open Go.RowKit Go.Proofs
section
variable {H:Type} {enc:TypeId × Value->H} {W:World}
def Fits (P:Program) (t:TypeId) (d:DataW H):Prop:=∀ n,n∈d.weights P t->n<=reachBytes
theorem reach_max:reachBytes=maxBytes:=by decide
theorem fits_each {P:Program} {ts:List TypeId} {ds:List (DataW H)} (h:∀ n,n∈DataW.weightsEach P ts ds->n<=reachBytes) {j:Nat} {t:TypeId} {d:DataW H} (ht:ts[j]? = some t) (hd:ds[j]? = some d):Fits P t d :=
 fun n hn=>h n (DataW.weights_mem_each ht hd n hn)
theorem weights_all {P:Program} {e:TypeId}:∀ {ds:List (DataW H)} {i:Nat} {d:DataW H},ds[i]? = some d->∀ n,n∈d.weights P e->n∈DataW.weightsAll P e ds
 | d0 :: ds,0,d,hd,n,hn=>by
  simp only [List.getElem?_cons_zero,Option.some.injEq] at hd;subst hd;simp only [DataW.weightsAll,List.mem_append];exact Or.inl hn
 | d0 :: ds,i+1,d,hd,n,hn=>by
  simp only [List.getElem?_cons_succ] at hd;simp only [DataW.weightsAll,List.mem_append];exact Or.inr (weights_all hd n hn)
 | [],_,_,hd,_,_=>by simp at hd
theorem pick_list {α:Type} (n:Nat) (Q:Nat->α->Prop) (h:∀ i,i<n->∃ x,Q i x):∃ xs:List α,xs.length=n/\∀ i x,xs[i]? = some x->Q i x:=by
 induction n with
 | zero=>exact ⟨[],rfl,fun i x hx=>by simp at hx⟩
 | succ n ih =>
  obtain ⟨xs,hl,hx⟩:=ih (fun i hi=>h i (by omega));obtain ⟨y,hy⟩:=h n (by omega);refine ⟨xs++[y],by simp [hl],fun i x hi=>?_⟩;by_cases hin:i<n
  ·rw [List.getElem?_append_left (by omega)] at hi;exact hx i x hi
  ·have hi2:=(List.getElem?_eq_some_iff.1 hi).1;simp at hi2;have:i=n:=by omega
   subst this;rw [List.getElem?_append_right (by omega),hl] at hi;simp at hi;rw [<- hi]; exact hy
theorem open_slw {α:Type} (R:World->α->List Value->Prop) (sz:Nat) {t e:TypeId} {fuel:Nat} {cs:List Value} {x:DataW H × List MemPlace} (ht:Tryz.prog.underlying t=some (.slice e)) (hsz:Tryz.prog.cellsOf e=sz) (hpos:0<sz) (hby:8*sz<=Tryz.prog.bytesOf e)
  (hel:∀ n cs y,DataW.trod enc Tryz.prog W 0 (fun _=>true) true n e cs=some y->Fits Tryz.prog e y.1->∃ x,R W x cs/\cs.length=sz)
  (h:DataW.trod enc Tryz.prog W 0 (fun _=>true) true fuel t cs=some x) (hf:Fits Tryz.prog t x.1):∃ v xs,cs=[v]/\SlW R sz W v xs:=by
 rcases DataW.trod_slice ht h with ⟨rfl,rfl⟩ | ⟨a,len,cap,elems,rest,n,rfl,rfl,rfl,-,hlc,hcm,hlen,hall,-,-⟩
 ·exact ⟨_,[],rfl,SlW.nil _ _ _⟩
 ·subst hsz;have hw:(elems.length+rest.length)*Tryz.prog.bytesOf e<=reachBytes:=hf _ (by simp [DataW.weights,ht]);have hfe:∀ (i:Nat) (y:DataW H × List MemPlace),elems[i]? = some y->Fits Tryz.prog e y.1:=fun i y hy m hm=>by
   refine hf m ?_;simp only [DataW.weights,ht,List.mem_cons,List.mem_append];exact Or.inr (Or.inl (weights_all (i:=i) (d:=y.1) (by simp [hy]) m hm))
  have hspot:0<len->a.spot=none:=fun h0=>by
   obtain ⟨y,hy⟩:∃ y,elems[0]? = some y:=⟨_,List.getElem?_eq_getElem (by omega)⟩;have h1:=hall 0 h0;rw [hy,Nat.zero_mul] at h1;cases hc:W.cells? 0 (a.add 0) (Tryz.prog.cellsOf e) with
   | none=>rw [hc] at h1; cases h1
   | some cs =>
    obtain ⟨-,hl0,hcell⟩:=World.cells?_some hc;have hh:=hcell 0 (by omega);rw [List.getElem?_eq_getElem (by omega)] at hh;have h2:=World.cell?_spot hh
    simpa [Addr.add] using h2
  obtain ⟨xs,hxl,hxs⟩:=pick_list len (fun i x=>∃ b off cs,a=⟨b,off,none⟩/\R W x cs/\cs.length=Tryz.prog.cellsOf e/\∀ j u,cs[j]? = some u->W.cell? ⟨b,off+i*Tryz.prog.cellsOf e+j,none⟩=some u) (fun i hi=>by
   obtain ⟨y,hy⟩:∃ y,elems[i]? = some y:=⟨_,List.getElem?_eq_getElem (by omega)⟩;have h1:=hall i hi;rw [hy] at h1;cases hc:W.cells? 0 (a.add (i*Tryz.prog.cellsOf e)) (Tryz.prog.cellsOf e) with
   | none=>rw [hc] at h1; cases h1
   | some cs =>
    rw [hc] at h1;obtain ⟨x,hx,hl⟩:=hel n cs y h1 (hfe i y hy);obtain ⟨-,-,hcell⟩:=World.cells?_some hc;obtain ⟨b,off,spot⟩:=a;have hs:spot=none:=hspot (by omega);subst hs;refine ⟨x,b,off,cs,rfl,hx,hl,fun j u hj=>?_⟩;have hjl:j<Tryz.prog.cellsOf e:=by have:=(List.getElem?_eq_some_iff.1 hj).1; omega
    have:=hcell j hjl;rw [hj] at this;rw [Addr.add_lit,Addr.add_lit] at this;exact this)
  refine ⟨_,xs,rfl,some a,cap,by rw [hxl],by omega,?_,fun i x hx=>?_⟩
  ·rw [<- reach_max,hxl];refine Nat.le_trans ?_ hw;exact Nat.mul_le_mul (by omega) hby
  ·obtain ⟨b,off,cs,ha,h1,h2,h3⟩:=hxs i x hx;exact ⟨b,off,cs,by rw [ha],h1,h2,h3⟩
theorem read_int {t:TypeId} {k:IntKind} (ht:Tryz.prog.underlying t=some (.int k)) {n:Nat} {cs:List Value} {y:DataW H × List MemPlace} (h:DataW.trod enc Tryz.prog W 0 (fun _=>true) true n t cs=some y):∃ x:Int,cs=[.int k x]/\(Lit.int k x).wf=true:=by
 obtain ⟨x,h1,-,h3⟩:=DataW.trod_int ht h;exact ⟨x,h1,h3⟩
theorem read_str {t:TypeId} (ht:Tryz.prog.underlying t=some .string) {n:Nat} {cs:List Value} {y:DataW H × List MemPlace} (h:DataW.trod enc Tryz.prog W 0 (fun _=>true) true n t cs=some y) (hf:Fits Tryz.prog t y.1):∃ s:BA,cs=[.string s]/\s.size<=maxBytes:=by
 obtain ⟨s,h1,rfl,-⟩:=DataW.trod_string ht h;refine ⟨s,h1,?_⟩;have:=hf s.data.toList.length (by simp [DataW.weights]);rw [<- reach_max]
 simpa using this
theorem read_bool {t:TypeId} (ht:Tryz.prog.underlying t=some .bool) {n:Nat} {cs:List Value} {y:DataW H × List MemPlace} (h:DataW.trod enc Tryz.prog W 0 (fun _=>true) true n t cs=some y):∃ b:Bool,cs=[.bool b]:=by
 obtain ⟨b,h1,-⟩:=DataW.trod_bool ht h;exact ⟨b,h1⟩
theorem wf_i64 {x:Int} (h:(Lit.int .i64 x).wf=true):-9223372036854775808<=x/\x<=9223372036854775807:=by
 simp [Lit.wf,IntKind.min,IntKind.max,IntKind.signed,IntKind.bits] at h;omega
theorem wf_u8 {x:Int} (h:(Lit.int .u8 x).wf=true):0<=x/\x<=255:=by
 simp [Lit.wf,IntKind.min,IntKind.max,IntKind.signed,IntKind.bits] at h;omega
theorem open_fields {t:TypeId} {fs:Array Field} (ht:Tryz.prog.underlying t=some (.struct fs)) {n:Nat} {cs:List Value} {y:DataW H × List MemPlace} (h:DataW.trod enc Tryz.prog W 0 (fun _=>true) true n t cs=some y) (hf:Fits Tryz.prog t y.1) :
  cs.length=Tryz.prog.cellsOf t/\∀ (i:Nat) (ft:TypeId) (off:Nat),(fs[i]?).map (fun f=>(f.type,f.offset))=some (ft,off)->∃ m z,DataW.trod enc Tryz.prog W 0 (fun _=>true) true m ft ((cs.drop off).take (Tryz.prog.cellsOf ft))=some z/\Fits Tryz.prog ft z.1:=by
 obtain ⟨xs,m,rfl,rfl,hl,hxl,hall⟩:=DataW.trod_struct ht h;refine ⟨hl,fun i ft off hfo=>?_⟩;obtain ⟨f,hi,hfe⟩:=Option.map_eq_some_iff.1 hfo;cases hfe;have h1:=hall i f hi;have hil:i<fs.size:=(Array.getElem?_eq_some_iff.1 hi).1;obtain ⟨z,hz⟩:∃ z,xs[i]? = some z:=⟨_,List.getElem?_eq_getElem (by omega)⟩;rw [hz] at h1;refine ⟨m,z,h1,fits_each (ts:=fs.toList.map (·.type)) (ds:=xs.map (·.1)) (fun q hq=>hf q ?_) (j:=i) (by simp [hi]) (by simp [hz])⟩;simp only [DataW.weights,ht];exact hq
theorem c3:Tryz.prog.cellsOf 3=1:=by kernel_rfl
theorem c4:Tryz.prog.cellsOf 4=1:=by kernel_rfl
theorem c5:Tryz.prog.cellsOf 5=1:=by kernel_rfl
theorem c9:Tryz.prog.cellsOf 9=1:=by kernel_rfl
theorem c35:Tryz.prog.cellsOf 35=1:=by kernel_rfl
theorem c84:Tryz.prog.cellsOf 84=1:=by kernel_rfl
theorem c46:Tryz.prog.cellsOf 46=1:=by kernel_rfl
theorem c47:Tryz.prog.cellsOf 47=1:=by kernel_rfl
theorem c48:Tryz.prog.cellsOf 48=1:=by kernel_rfl
theorem c83:Tryz.prog.cellsOf 83=2:=by kernel_rfl
theorem c86:Tryz.prog.cellsOf 86=3:=by kernel_rfl
theorem c88:Tryz.prog.cellsOf 88=5:=by kernel_rfl
theorem c169:Tryz.prog.cellsOf 169=2:=by kernel_rfl
theorem c43:Tryz.prog.cellsOf 43=3:=by kernel_rfl
theorem c50:Tryz.prog.cellsOf 50=10:=by kernel_rfl
theorem c93:Tryz.prog.cellsOf 93=3:=by kernel_rfl
theorem open_ints35 {n:Nat} {cs:List Value} {y:DataW H × List MemPlace} (h:DataW.trod enc Tryz.prog W 0 (fun _=>true) true n 35 cs=some y) (hf:Fits Tryz.prog 35 y.1):∃ v xs,cs=[v]/\Ints W v xs :=
 open_slw IsInt 1 Tryz.underlying35 c3 (by decide) (of_decide_eq_true (by kernel_rfl)) (fun m cs y h _=>by
  obtain ⟨x,rfl,hw⟩:=read_int Tryz.underlying3 h;exact ⟨x,⟨rfl,wf_i64 hw⟩,rfl⟩) h hf
theorem open_strs84 {n:Nat} {cs:List Value} {y:DataW H × List MemPlace} (h:DataW.trod enc Tryz.prog W 0 (fun _=>true) true n 84 cs=some y) (hf:Fits Tryz.prog 84 y.1):∃ v xs,cs=[v]/\Strs W v xs :=
 open_slw IsStr 1 Tryz.underlying84 c9 (by decide) (of_decide_eq_true (by kernel_rfl)) (fun m cs y h hf=>by
  obtain ⟨s,rfl,hs⟩:=read_str Tryz.underlying9 h hf;exact ⟨s,⟨rfl,hs⟩,rfl⟩) h hf
theorem take_one {cs:List Value} {v:Value} {k:Nat} (h:(cs.drop k).take 1=[v]):cs[k]? = some v:=by
 have:=congrArg (fun l=>l[0]?) h
 simpa using this
theorem list_of {cs:List Value}:∀ (vs:List Value),cs.length=vs.length->(∀ (i:Nat) (v:Value),vs[i]? = some v->cs[i]? = some v)->cs=vs:=fun vs hl h=>by
 apply List.ext_getElem? ;intro i;by_cases hi:i<vs.length
 ·rw [h i _ (List.getElem?_eq_getElem hi),List.getElem?_eq_getElem hi]
 ·rw [List.getElem?_eq_none (by omega),List.getElem?_eq_none (by omega)]
theorem open_part {n:Nat} {cs:List Value} {y:DataW H × List MemPlace} (h:DataW.trod enc Tryz.prog W 0 (fun _=>true) true n 83 cs=some y) (hf:Fits Tryz.prog 83 y.1):∃ x,IsPart W x cs/\cs.length=2:=by
 obtain ⟨hl,hall⟩:=open_fields Tryz.underlying83 h hf;rw [c83] at hl;obtain ⟨m0,z0,h0,f0⟩:=hall 0 9 0 rfl;obtain ⟨m1,z1,h1,f1⟩:=hall 1 3 1 rfl;obtain ⟨s,e0,hs⟩:=read_str Tryz.underlying9 h0 f0;obtain ⟨x,e1,hx⟩:=read_int Tryz.underlying3 h1;rw [c9] at e0;rw [c3] at e1;have e0:=take_one e0;have e1:=take_one e1;refine ⟨⟨s,x⟩,⟨list_of _ hl (fun i v hv=>?_),hs,wf_i64 hx⟩,hl⟩
 match i,hv with
 | 0,hv=>cases hv; exact e0
 | 1,hv=>cases hv; exact e1
theorem open_over {n:Nat} {cs:List Value} {y:DataW H × List MemPlace} (h:DataW.trod enc Tryz.prog W 0 (fun _=>true) true n 169 cs=some y) (hf:Fits Tryz.prog 169 y.1):∃ x,IsOver W x cs/\cs.length=2:=by
 obtain ⟨hl,hall⟩:=open_fields Tryz.underlying169 h hf;rw [c169] at hl;obtain ⟨m0,z0,h0,f0⟩:=hall 0 9 0 rfl;obtain ⟨m1,z1,h1,f1⟩:=hall 1 9 1 rfl;obtain ⟨s,e0,hs⟩:=read_str Tryz.underlying9 h0 f0;obtain ⟨x,e1,hx⟩:=read_str Tryz.underlying9 h1 f1;rw [c9] at e0 e1;have e0:=take_one e0;have e1:=take_one e1;refine ⟨⟨s,x⟩,⟨list_of _ hl (fun i v hv=>?_),hs,hx⟩,hl⟩
 match i,hv with
 | 0,hv=>cases hv; exact e0
 | 1,hv=>cases hv; exact e1
theorem open_reveal {n:Nat} {cs:List Value} {y:DataW H × List MemPlace} (h:DataW.trod enc Tryz.prog W 0 (fun _=>true) true n 43 cs=some y) (hf:Fits Tryz.prog 43 y.1):∃ x,IsReveal W x cs/\cs.length=3:=by
 obtain ⟨hl,hall⟩:=open_fields Tryz.underlying43 h hf;rw [c43] at hl;obtain ⟨m0,z0,h0,f0⟩:=hall 0 9 0 rfl;obtain ⟨m1,z1,h1,f1⟩:=hall 1 4 1 rfl;obtain ⟨m2,z2,h2,f2⟩:=hall 2 3 2 rfl;obtain ⟨s,e0,hs⟩:=read_str Tryz.underlying9 h0 f0;obtain ⟨b,e1⟩:=read_bool Tryz.underlying4 h1;obtain ⟨x,e2,hx⟩:=read_int Tryz.underlying3 h2;rw [c9] at e0;rw [c4] at e1;rw [c3] at e2;have e0:=take_one e0;have e1:=take_one e1;have e2:=take_one e2;refine ⟨⟨s,b,x⟩,⟨list_of _ hl (fun i v hv=>?_),hs,wf_i64 hx⟩,hl⟩
 match i,hv with
 | 0,hv=>cases hv; exact e0
 | 1,hv=>cases hv; exact e1
 | 2,hv=>cases hv; exact e2
theorem open_meth {n:Nat} {cs:List Value} {y:DataW H × List MemPlace} (h:DataW.trod enc Tryz.prog W 0 (fun _=>true) true n 88 cs=some y) (hf:Fits Tryz.prog 88 y.1):∃ x,IsMeth W x cs/\cs.length=5:=by
 obtain ⟨hl,hall⟩:=open_fields Tryz.underlying88 h hf;rw [c88] at hl;obtain ⟨m0,z0,h0,f0⟩:=hall 0 9 0 rfl;obtain ⟨m1,z1,h1,f1⟩:=hall 1 86 1 rfl;obtain ⟨m2,z2,h2,f2⟩:=hall 2 9 4 rfl;obtain ⟨s,e0,hs⟩:=read_str Tryz.underlying9 h0 f0;obtain ⟨p,e4,hp⟩:=read_str Tryz.underlying9 h2 f2;obtain ⟨-,hsig⟩:=open_fields Tryz.underlying86 h1 f1;obtain ⟨n0,y0,g0,k0⟩:=hsig 0 35 0 rfl;obtain ⟨n1,y1,g1,k1⟩:=hsig 1 3 1 rfl;obtain ⟨n2,y2,g2,k2⟩:=hsig 2 84 2 rfl;obtain ⟨av,args,e1,ha⟩:=open_ints35 g0 k0;obtain ⟨res,e2,hr⟩:=read_int Tryz.underlying3 g1;obtain ⟨rv,raises,e3,hra⟩:=open_strs84 g2 k2;rw [c9] at e0 e4;rw [c35,c86] at e1;rw [c3,c86] at e2;rw [c84,c86] at e3;have e0:=take_one e0;have e4:=take_one e4;have e1:cs[1]? = some av:=by have:=take_one e1; simpa using this
 have e2:cs[2]? = some (.int .i64 res):=by have:=take_one e2; simpa using this
 have e3:cs[3]? = some rv:=by have:=take_one e3; simpa using this
 refine ⟨⟨s,⟨args,res,raises⟩,p⟩,⟨av,rv,list_of _ hl (fun i v hv=>?_),ha,hra,(wf_i64 hr).1,(wf_i64 hr).2,hs,hp⟩,hl⟩
 match i,hv with
 | 0,hv=>cases hv; exact e0
 | 1,hv=>cases hv; exact e1
 | 2,hv=>cases hv; exact e2
 | 3,hv=>cases hv; exact e3
 | 4,hv=>cases hv; exact e4
theorem open_parts {n:Nat} {cs:List Value} {y:DataW H × List MemPlace} (h:DataW.trod enc Tryz.prog W 0 (fun _=>true) true n 46 cs=some y) (hf:Fits Tryz.prog 46 y.1):∃ v xs,cs=[v]/\Parts W v xs :=
 open_slw IsPart 2 Tryz.underlying46 c83 (by decide) (of_decide_eq_true (by kernel_rfl)) (fun m cs y h hf=>open_part h hf) h hf
theorem open_meths {n:Nat} {cs:List Value} {y:DataW H × List MemPlace} (h:DataW.trod enc Tryz.prog W 0 (fun _=>true) true n 47 cs=some y) (hf:Fits Tryz.prog 47 y.1):∃ v xs,cs=[v]/\Meths W v xs :=
 open_slw IsMeth 5 Tryz.underlying47 c88 (by decide) (of_decide_eq_true (by kernel_rfl)) (fun m cs y h hf=>open_meth h hf) h hf
theorem open_overs {n:Nat} {cs:List Value} {y:DataW H × List MemPlace} (h:DataW.trod enc Tryz.prog W 0 (fun _=>true) true n 48 cs=some y) (hf:Fits Tryz.prog 48 y.1):∃ v xs,cs=[v]/\Overs W v xs :=
 open_slw IsOver 2 Tryz.underlying48 c169 (by decide) (of_decide_eq_true (by kernel_rfl)) (fun m cs y h hf=>open_over h hf) h hf
theorem open_ty {n:Nat} {cs:List Value} {y:DataW H × List MemPlace} (h:DataW.trod enc Tryz.prog W 0 (fun _=>true) true n 50 cs=some y) (hf:Fits Tryz.prog 50 y.1):∃ x,IsTy W x cs/\cs.length=10:=by
 obtain ⟨hl,hall⟩:=open_fields Tryz.underlying50 h hf;rw [c50] at hl;obtain ⟨m0,z0,h0,f0⟩:=hall 0 5 0 rfl;obtain ⟨m1,z1,h1,f1⟩:=hall 1 3 1 rfl;obtain ⟨m2,z2,h2,f2⟩:=hall 2 3 2 rfl;obtain ⟨m3,z3,h3,f3⟩:=hall 3 4 3 rfl;obtain ⟨m4,z4,h4,f4⟩:=hall 4 9 4 rfl;obtain ⟨m5,z5,h5,f5⟩:=hall 5 9 5 rfl;obtain ⟨m6,z6,h6,f6⟩:=hall 6 3 6 rfl;obtain ⟨m7,z7,h7,f7⟩:=hall 7 46 7 rfl;obtain ⟨m8,z8,h8,f8⟩:=hall 8 47 8 rfl;obtain ⟨m9,z9,h9,f9⟩:=hall 9 48 9 rfl;obtain ⟨k,e0,w0⟩:=read_int Tryz.underlying5 h0;obtain ⟨lo,e1,w1⟩:=read_int Tryz.underlying3 h1;obtain ⟨hi,e2,w2⟩:=read_int Tryz.underlying3 h2;obtain ⟨br,e3⟩:=read_bool Tryz.underlying4 h3;obtain ⟨bd,e4,w4⟩:=read_str Tryz.underlying9 h4 f4;obtain ⟨op,e5,w5⟩:=read_str Tryz.underlying9 h5 f5;obtain ⟨su,e6,w6⟩:=read_int Tryz.underlying3 h6;obtain ⟨pv,ps,e7,w7⟩:=open_parts h7 f7;obtain ⟨mv,ms,e8,w8⟩:=open_meths h8 f8;obtain ⟨ov,os,e9,w9⟩:=open_overs h9 f9;rw [c5] at e0;rw [c3] at e1 e2 e6;rw [c4] at e3;rw [c9] at e4 e5;rw [c46] at e7;rw [c47] at e8;rw [c48] at e9;have e0:=take_one e0;have e1:=take_one e1;have e2:=take_one e2;have e3:=take_one e3;have e4:=take_one e4;have e5:=take_one e5;have e6:=take_one e6;have e7:=take_one e7;have e8:=take_one e8;have e9:=take_one e9;refine ⟨⟨k,lo,hi,br,bd,op,su,ps,ms,os⟩,⟨pv,mv,ov,list_of _ hl (fun i v hv=>?_),w7,w8,w9,⟨(wf_u8 w0).1,(wf_u8 w0).2,(wf_i64 w1).1,(wf_i64 w1).2,(wf_i64 w2).1,(wf_i64 w2).2,(wf_i64 w6).1,(wf_i64 w6).2,w4,w5⟩⟩,hl⟩
 match i,hv with
 | 0,hv=>cases hv; exact e0
 | 1,hv=>cases hv; exact e1
 | 2,hv=>cases hv; exact e2
 | 3,hv=>cases hv; exact e3
 | 4,hv=>cases hv; exact e4
 | 5,hv=>cases hv; exact e5
 | 6,hv=>cases hv; exact e6
 | 7,hv=>cases hv; exact e7
 | 8,hv=>cases hv; exact e8
 | 9,hv=>cases hv; exact e9
theorem open_graph {n:Nat} {cs:List Value} {y:DataW H × List MemPlace} (h:DataW.trod enc Tryz.prog W 0 (fun _=>true) true n 23 cs=some y) (hf:Fits Tryz.prog 23 y.1):∃ v g,cs=[v]/\Graph W v g :=
 open_slw IsTy 10 Tryz.underlying23 c50 (by decide) (of_decide_eq_true (by kernel_rfl)) (fun m cs y h hf=>open_ty h hf) h hf
theorem open_reveals {n:Nat} {cs:List Value} {y:DataW H × List MemPlace} (h:DataW.trod enc Tryz.prog W 0 (fun _=>true) true n 24 cs=some y) (hf:Fits Tryz.prog 24 y.1):∃ v rs,cs=[v]/\Reveals W v rs :=
 open_slw IsReveal 3 Tryz.underlying24 c43 (by decide) (of_decide_eq_true (by kernel_rfl)) (fun m cs y h hf=>open_reveal h hf) h hf
end
end
section
open Go.ChangeShapes Go.WideShapes Go.ChangeAt Go.RowKit Go.Proofs
theorem own:ownKnob Tryz.prog.godebug=none:=by kernel_rfl
theorem laidOut:laidOutB Tryz.prog=true:=by kernel_rfl
section
variable {H:Type} {enc:TypeId × Value->H} {W:World}
theorem arg_graph {base:Nat} {v:Value} {d:DataW H} {p:List MemPlace} (hv:Value.okWide Tryz.prog W .any base 23 v) (h:DataW.Trod enc Tryz.prog W 0 (fun _=>true) true 23 v d p) (hf:Fits Tryz.prog 23 d):∃ a n c g,v=.slice a n c/\Graph W (.slice a n c) g:=by
 obtain ⟨a,n,c,rfl⟩:=okWide_slice Tryz.underlying23 hv;obtain ⟨m,hm⟩:=h;obtain ⟨v',g,he,hg⟩:=open_graph hm hf;change [Value.slice a n c]=[v'] at he;injection he with he _
 subst he;exact ⟨a,n,c,g,rfl,hg⟩
theorem arg_reveals {base:Nat} {v:Value} {d:DataW H} {p:List MemPlace} (hv:Value.okWide Tryz.prog W .any base 24 v) (h:DataW.Trod enc Tryz.prog W 0 (fun _=>true) true 24 v d p) (hf:Fits Tryz.prog 24 d):∃ a n c rs,v=.slice a n c/\Reveals W (.slice a n c) rs:=by
 obtain ⟨a,n,c,rfl⟩:=okWide_slice Tryz.underlying24 hv;obtain ⟨m,hm⟩:=h;obtain ⟨v',g,he,hg⟩:=open_reveals hm hf;change [Value.slice a n c]=[v'] at he;injection he with he _
 subst he;exact ⟨a,n,c,g,rfl,hg⟩
theorem arg_below {t:TypeId} {v:Value} {d:DataW H} {p:List MemPlace} (hr:Tryz.prog.readableRec t=true) (hrow:t<Tryz.prog.types.size) {W':World} (h:DataW.Trod enc Tryz.prog W 0 (fun _=>true) true t v d p) (hb:Below W.heap.size W W') :
  DataW.Trod enc Tryz.prog W' 0 (fun b=>decide (b<W.heap.size)) true t v d p:=by
 obtain ⟨m,hm⟩:=h;exact Below.trod laidOut hr hrow ⟨m,hm⟩ hb (DataW.trod_lt _ _ _ _ hm)
end
end
section
open Go.ChangeShapes Go.WideShapes Go.ChangeAt Go.RowKit Go.Proofs
section
variable {H:Type} {enc:TypeId × Value->H} {W:World}
theorem open_step {n:Nat} {cs:List Value} {y:DataW H × List MemPlace} (h:DataW.trod enc Tryz.prog W 0 (fun _=>true) true n 93 cs=some y) (hf:Fits Tryz.prog 93 y.1):∃ x,IsIStp W x cs/\cs.length=3:=by
 obtain ⟨hl,hall⟩:=open_fields Tryz.underlying93 h hf;rw [c93] at hl;obtain ⟨m0,z0,h0,f0⟩:=hall 0 5 0 rfl;obtain ⟨m1,z1,h1,f1⟩:=hall 1 3 1 rfl;obtain ⟨m2,z2,h2,f2⟩:=hall 2 3 2 rfl;obtain ⟨s,e0,hs⟩:=read_int Tryz.underlying5 h0;obtain ⟨b,e1,hb⟩:=read_int Tryz.underlying3 h1;obtain ⟨x,e2,hx⟩:=read_int Tryz.underlying3 h2;rw [c5] at e0;rw [c3] at e1;rw [c3] at e2;have e0:=take_one e0;have e1:=take_one e1;have e2:=take_one e2;have hs:=wf_u8 hs;have hb:=wf_i64 hb;have hx:=wf_i64 hx;refine ⟨⟨s,b,x⟩,⟨list_of _ hl (fun i v hv=>?_),hs.1,hs.2,hb.1,hb.2,hx.1,hx.2⟩,hl⟩
 match i,hv with
 | 0,hv=>cases hv; exact e0
 | 1,hv=>cases hv; exact e1
 | 2,hv=>cases hv; exact e2
theorem open_steps {n:Nat} {cs:List Value} {y:DataW H × List MemPlace} (h:DataW.trod enc Tryz.prog W 0 (fun _=>true) true n 67 cs=some y) (hf:Fits Tryz.prog 67 y.1):∃ v L,cs=[v]/\StepsW W v L :=
 open_slw IsIStp 3 Tryz.underlying67 c93 (by decide) (of_decide_eq_true (by kernel_rfl)) (fun m cs y h hf=>open_step h hf) h hf
theorem arg_steps {base:Nat} {v:Value} {d:DataW H} {p:List MemPlace} (hv:Value.okWide Tryz.prog W .any base 67 v) (h:DataW.Trod enc Tryz.prog W 0 (fun _=>true) true 67 v d p) (hf:Fits Tryz.prog 67 d):∃ a n c L,v=.slice a n c/\StepsW W (.slice a n c) L:=by
 obtain ⟨a,n,c,rfl⟩:=okWide_slice Tryz.underlying67 hv;obtain ⟨m,hm⟩:=h;obtain ⟨v',g,he,hg⟩:=open_steps hm hf;change [Value.slice a n c]=[v'] at he;injection he with he _
 subst he;exact ⟨a,n,c,g,rfl,hg⟩
end
end
section
open Go.ChangeShapes Go.WideShapes Go.ChangeAt Go.RowKit Go.Proofs
theorem subDerives_lifted (os:Os) (started:os.Started) (H:Type) (enc:TypeId × Value->H) :
  ReturnsInHanded {} Tryz.checked os 10 .any (Rows.subDerivesSpec.pre6 enc Tryz.prog Tryz.f10 Rows.subDerivesRow.domain false) (Rows.subDerivesSpec.post enc Tryz.prog Tryz.f10 false true false false):=by
 refine returnsInHanded_of_change_sized (C:=Tryz.checked) own started (by kernel_rfl) Tryz.func10
  (ChangeSpec.witness6 (enc:=enc) (C:=Tryz.checked) false ⟨#[],#[.slice none 0 0,.slice none 0 0,.int .i64 0,.int .i64 0,.slice none 0 0],[]⟩ 8 (by kernel_rfl) (by kernel_rfl) (by kernel_rfl) (by kernel_rfl)) ?_
 intro W base args ds gs before hval0 hW hcnd hsz _;have hval:∀ (j:Nat) t v,Tryz.f10.params[j]? = some t->args[j]? = some v->Value.okWide Tryz.prog W .any base t v:=hval0;have hW':=hW;obtain ⟨p,q,hA0,hV,rfl,hfz,hnd⟩:=hW;have hA:DataW.TrodAll enc Tryz.prog W 0 (fun _=>true) true Tryz.f10.params.toList args.toList ds p:=hA0;have hfit:∀ (j:Nat) (t:TypeId) (d:DataW H),Tryz.f10.params.toList[j]? = some t->ds[j]? = some d->Fits Tryz.prog t d:=fun j t d ht hd=>by
  refine fits_each (ts:=Tryz.f10.params.toList++Rows.subDerivesSpec.plain.varTypes Tryz.prog) (ds:=ds++gs) (fun m hm=>of_decide_eq_true (List.all_eq_true.1 hsz m hm)) (j:=j) ?_ ?_
  ·rw [List.getElem?_append_left (List.getElem?_eq_some_iff.1 ht).1]; exact ht
  ·rw [List.getElem?_append_left (List.getElem?_eq_some_iff.1 hd).1]; exact hd
 rw [Tryz.params10] at hA hval hfit;obtain ⟨v0,vs0,d0,ds0,p0,q0,hargs,rfl,rfl,h0,r0⟩:=trodAll_cons hA;obtain ⟨v1,vs1,d1,ds1,p1,q1,rfl,rfl,rfl,h1,r1⟩:=trodAll_cons r0;obtain ⟨v2,vs2,d2,ds2,p2,q2,rfl,rfl,rfl,h2,r2⟩:=trodAll_cons r1;obtain ⟨v3,vs3,d3,ds3,p3,q3,rfl,rfl,rfl,h3,r3⟩:=trodAll_cons r2;obtain ⟨v4,vs4,d4,ds4,p4,q4,rfl,rfl,rfl,h4,r4⟩:=trodAll_cons r3;obtain ⟨rfl,rfl,rfl⟩:=trodAll_nil r4;obtain rfl:args=#[v0,v1,v2,v3,v4]:=by cases args; simp_all
 obtain ⟨rfl,rfl⟩:=trodVars_none hV;obtain ⟨a0,n0,c0,g0,rfl,w0⟩:=arg_graph (hval 0 23 v0 rfl rfl) h0 (hfit 0 23 d0 rfl rfl);obtain ⟨a1,n1,c1,g1,rfl,w1⟩:=arg_reveals (hval 1 24 v1 rfl rfl) h1 (hfit 1 24 d1 rfl rfl);obtain ⟨a2,rfl,rfl,rfl,w2⟩:=open_int Tryz.underlying3 (hval 2 3 v2 rfl rfl) h2;obtain ⟨a3,rfl,rfl,rfl,w3⟩:=open_int Tryz.underlying3 (hval 3 3 v3 rfl rfl) h3;obtain ⟨a4,n4,c4,g4,rfl,w4⟩:=arg_steps (hval 4 67 v4 rfl rfl) h4 (hfit 4 67 d4 rfl rfl);clear hA0 hval0 hsz;refine (subDerives10 a0 n0 c0 g0 a1 n1 c1 g1 a2 a3 a4 n4 c4 g4 W w0 w1 (wf_i64 w2) (wf_i64 w3) w4).mono fun e W' ⟨he,bel⟩=>?_;subst he;exact ⟨_,rfl,_,_,_,[],_,[],hW',trodAll_mk1 (shut_bool Tryz.underlying4 _),(trodAll_cons_mk (arg_below (by kernel_rfl) (of_decide_eq_true (by kernel_rfl)) h0 bel) (trodAll_cons_mk (arg_below (by kernel_rfl) (of_decide_eq_true (by kernel_rfl)) h1 bel) (trodAll_cons_mk (shut_int Tryz.underlying3 w2) (trodAll_cons_mk (shut_int Tryz.underlying3 w3) (trodAll_cons_mk (arg_below (by kernel_rfl) (of_decide_eq_true (by kernel_rfl)) h4 bel) trodAll_mk0))))),rfl,bel.frame _,fun h=>by cases h⟩
theorem subDerives_over:Rows.subDerivesRow.holds Tryz.pinned (OpenSpec.ofChange Rows.subDerivesSpec) :=
 OpenClaim.holds_of_wide 10 Tryz.f10 rfl rfl rfl rfl rfl rfl rfl ⟨rfl,rfl,rfl,rfl,rfl⟩ rfl rfl rfl rfl rfl (by kernel_rfl) Tryz.func10 (by kernel_rfl)
  (of_decide_eq_true (by kernel_rfl)) (by unfold Func.isWrapper; first | (rw [if_pos (by decide +kernel)]; kernel_rfl) | (rw [if_neg (by decide +kernel)]; exact ⟨rfl,rfl⟩))
  (fun os started H enc _=>subDerives_lifted os started H enc)
theorem subDerives_holds:Rows.SubDerivesSaid:=subDerives_over
#print axioms subDerives_holds
end
end Go.Proofs.YtjffkeoajkhbmaaGreat
