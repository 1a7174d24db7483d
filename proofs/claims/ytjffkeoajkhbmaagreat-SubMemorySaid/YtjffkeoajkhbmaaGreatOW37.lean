/- The reference's In. Questions to the reference's environment: Below, Above, Join. The law's example: its revelations. -/
import Derived.Test.YtjffkeoajkhbmaaGreatOW32
import Derived.Test.YtjffkeoajkhbmaaGreatOW36
namespace Go.Proofs.YtjffkeoajkhbmaaGreat
set_option linter.unusedSimpArgs false
set_option linter.unusedVariables false
set_option maxRecDepth 100000
set_option maxHeartbeats 8000000
section
open Go.RowKit Go.Proofs
def putB (f:Nat->Bool) (j:Nat) (v:Bool):Nat->Bool:=fun i=>if i=j then v else f i
theorem RowT.put {w:World} {b n:Nat} {f:Nat->Bool} (h:RowT w b n f) (j:Nat) (v:Bool):RowT (w.setCell ⟨b,j,none⟩ (.bool v)) b n (putB f j v):=by
 have:=row_set (j:=j) (v:=.bool v) h;unfold RowT;rw [this]
 congr 2
 unfold bRow putB;apply Array.ext
 ·simp
 ·intro i h1 h2;simp only [List.setIfInBounds_toArray,List.getElem_toArray,List.getElem_set,List.getElem_map,List.getElem_range];by_cases hij:i=j
  ·subst hij; simp
  ·rw [if_neg (fun e=>hij e.symm),if_neg hij]
section
variable {w wr:World} {t n k:Nat} {rb:Nat->Nat} {F:Nat->Nat->Bool}
theorem Mat.put (h:Mat w wr t n k rb F) {x:Nat} (hx:x<k) (y:Nat) (v:Bool):Mat w (wr.setCell ⟨rb x,y,none⟩ (.bool v)) t n k rb (fun i=>if i=x then putB (F x) y v else F i):=by
 refine ⟨Below.setCell h.ext (h.rlo x hx) _,(Below.heap_setCell _ _ _ _ (fun e=>h.net hx e.symm)).trans h.tab,h.lo,fun i hi=>?_,h.rlo,h.inj⟩;by_cases e:i=x
 ·subst e;simp only [if_true];exact (h.row i hi).put y v
 ·simp only [if_neg e];exact (Below.heap_setCell _ _ _ _ (fun e2=>e (h.inj i x hi hx e2))).trans (h.row i hi)
theorem Mat.base {w0:World} (h:Mat w wr t n k rb F) (hE:Ext w0 w):Mat w0 wr t n k rb F :=
 ⟨hE.trans h.ext,h.tab,Nat.le_trans hE.size h.lo,h.row,fun i hi=>Nat.le_trans hE.size (h.rlo i hi),h.inj⟩
end
def NextOk (n:Nat) (succ:Nat->List Nat) (k b:Nat) (F:Nat->Nat->Bool):Prop:=∀ x y,x<n->y<n->(x<k\/x=k/\y<b)->(F x y=true↔y∈succ x)
def InRPost (w:World) (g:List Ty) (rs:List Reveal) (e:Ending) (w':World):Prop :=
 Ext w w'/\((openE g rs=0/\∃ vb D,e=.returned (.tuple #[.pointer (some ⟨vb,0,none⟩),.int .i64 0])/\EnvF w' vb g rs (classesOf g) D/\∀ a,a<g.length->FarOk g.length (succF g (classesOf g) rs) a (D a)) \/
  (openE g rs≠0/\e=.returned (.tuple #[.pointer none,.int .i64 (openE g rs)])))
def InRPostT (w:World) (g:List Ty) (rs:List Reveal) (ga:Option Addr) (gc:Nat) (ra:Option Addr) (rc:Nat) (e:Ending) (w':World):Prop :=
 Ext w w'/\((openE g rs=0/\∃ vb D,e=.returned (.tuple #[.pointer (some ⟨vb,0,none⟩),.int .i64 0])/\EnvF w' vb g rs (classesOf g) D/\(∀ a,a<g.length->FarOk g.length (succF g (classesOf g) rs) a (D a))/\EnvT w' vb g rs (classesOf g) D ga gc ra rc) \/
  (openE g rs≠0/\e=.returned (.tuple #[.pointer none,.int .i64 (openE g rs)])))
theorem inR25T (ga:Option Addr) (n gc:Nat) (g:List Ty) (ra:Option Addr) (rn rc:Nat) (rs:List Reveal) (w:World) (hg:Graph w (.slice ga n gc) g) (hre:Reveals w (.slice ra rn rc) rs) :
  Calls Tryz.prog 25 #[.slice ga n gc,.slice ra rn rc] w (InRPostT w g rs ga gc ra rc):=by
 obtain rfl:=SlW.len hg;obtain rfl:=SlW.len hre;have hcall:=dh (checkR56 ga g.length gc g ra rs.length rc rs w hg hre);have Hg:=dh hg;have Hre:=dh hre;clear hg hre
 go_enter Tryz.func25,Tryz.ntmps25
 go_wp2_with fail;refine hcall.out.mono ?_;rintro e w1 ⟨rfl,hE⟩;have HE:=dh hE;clear hE hcall;by_cases h0:openE g rs=0;rotate_left
 ·have H0:=dh h0;have hne:(openE g rs != 0)=true:=by simp [h0]
  clear h0;go_wp2_with fail;go_ret2;exact ⟨HE.out,Or.inr ⟨H0.out,rfl⟩⟩
 obtain ⟨hchk,h400,h60,hr,hbad⟩:=opens h0;have H0:=dh h0;have Hchk:=dh hchk;have Hr:=dh hr;have Hrt:=dh (show ∀ i,i<rs.length->0<=(nth rs i).type/\(nth rs i).type<g.length from fun i hi=>rev_in (hbad i hi));have Hs:=dh (succ_ok h0);rw [h0];clear h0 hchk hr hbad;go_wp2_with fail;have hbx:(w1.alloc (.cells #[.slice ga g.length gc,.slice ra rs.length rc,.slice none 0 0,.slice none 0 0] 107)).heap[w1.heap.size]? = some (.cells #[.slice ga g.length gc,.slice ra rs.length rc,.slice none 0 0,.slice none 0 0] 107 (0,0)):=heap_alloc_new _ _;obtain ⟨W1,hW1⟩:∃ W1:World,W1=w1.alloc (.cells #[.slice ga g.length gc,.slice ra rs.length rc,.slice none 0 0,.slice none 0 0] 107):=⟨_,rfl⟩;have HE1:=dh (show Ext w1 W1 by rw [hW1]; exact Ext.alloc _ _);rw [<- hW1] at hbx ⊢;have HE1:=dh (HE.out.trans HE1.out);have Hbx:=dh hbx;have hvlo:=HE.out.size;clear hW1 hbx HE;generalize w1.heap.size=vb at Hbx hvlo ⊢;refine (classesP57 _ _ _ g W1 (Graph.mono HE1.out Hg.out) Hchk.out h400 Hr.out).mono ?_;rintro e w2 ⟨r,rfl,hR,hE⟩;have hbx2:=(hE.block _ (row_lt Hbx.out)).trans Hbx.out;have c2:=row_cell hbx2 (j:=2) rfl;have f2:=row_free hbx2 2;have hmk:=makeTab g.length h400;go_upto_region 9 with (fail);have hrne:r≠vb:=ne_type hR hbx2 (by decide);obtain ⟨W3,hW3⟩:∃ W3:World,W3=w2.setCell ⟨vb,2,none⟩ (.slice (some ⟨r,0,none⟩) g.length g.length):=⟨_,rfl⟩;have hE3:Ext w W3:=by rw [hW3]; exact Below.setCell (HE1.out.trans hE) hvlo _
 have henv:W3.heap[vb]? = some (.cells #[.slice ga g.length gc,.slice ra rs.length rc,.slice (some ⟨r,0,none⟩) g.length g.length,.slice none 0 0] 107 (0,0)):=by
  rw [hW3];have:=row_set (j:=2) (v:=.slice (some ⟨r,0,none⟩) g.length g.length) hbx2
  simpa using this
 have hcls:RowI W3 r g.length fun i=>(classesOf g i:Int):=by rw [hW3]; exact (Below.heap_setCell _ _ _ _ hrne).trans hR
 have hM0:=Mat.new (Ext.refl W3) g.length (fun _=>0) (fun _ _=>false);have hsz:W3.heap.size=w2.heap.size:=by rw [hW3]; simp
 rw [hsz] at hM0;rw [<- hW3];have HM:=dh hM0;have HE3:=dh hE3;have Henv:=dh henv;have Hcls:=dh hcls;have HV:=dh (show EnvR W3 vb g rs (classesOf g) from ⟨ga,gc,ra,rc,_,_,row_cell henv rfl,row_cell henv rfl,row_cell henv rfl,Graph.mono hE3 Hg.out,Reveals.mono hE3 Hre.out,hcls.ints (by unfold maxBytes; omega) (fun i hi=>by have:=classesOf_le g i; omega)⟩);clear hW3 hE3 henv hcls hM0 hsz hrne hmk c2 f2 hbx2 hE hR Hbx HE1;generalize w2.heap.size=t at HM ⊢;have HmkR:=dh (makeRowT g.length h400);go_loopw [10,11] (fun av _ wr=>∃ a:Nat,a<=g.length/\av=.int .i64 a/\Hid (∃ rb F,Mat W3 wr t g.length a rb F/\NextOk g.length (succF g (classesOf g) rs) a 0 F)) (fun av _ _=>g.length-(intOf av).toNat)
 case atStart=>exact ⟨0,Nat.zero_le _,rfl,dh ⟨_,_,HM.out,fun x y _ _ h=>by omega⟩⟩
 case round =>
  clear HM;obtain ⟨a,ha,rfl,hH⟩:=hrel;obtain ⟨rb,F,hM,hF⟩:=hH.out;clear hH;by_cases hag:a<g.length
  ·have ct:=row_cell hM.tab (tRow_at rb hag (Nat.le_refl a));have ft:=row_free hM.tab a;have hlt2:=row_lt hM.tab;have hadd:=hM.add hag;rw [World.setCell_alloc_past _ _ _ _ hlt2] at hadd;have HM:=dh hadd;have HF:=dh (show NextOk g.length (succF g (classesOf g) rs) a 0 (fun i=>if i=a then fun _=>false else F i) from fun x y hx hy h=>by
    have hxa:x≠a:=by omega
    simp only [if_neg hxa];exact hF x y hx hy (Or.inl (by omega)))
   have hmk:=HmkR.out;clear hM hF hadd;go_upto_region 13 with (fail);clear hmk ct ft hlt2;generalize (fun i=>if i=a then wr.heap.size else rb i)=rb2 at HM;generalize (fun i=>if i=a then fun _=>false else F i)=F2 at HM HF;go_loopw [11] (fun bv wx=>∃ b:Nat,b<=g.length/\bv=.int .i64 b/\Hid (∃ F,Mat W3 wx t g.length (a+1) rb2 F/\NextOk g.length (succF g (classesOf g) rs) a b F)) (fun bv _=>g.length-(intOf bv).toNat)
   case atStart=>exact ⟨0,Nat.zero_le _,rfl,dh ⟨_,HM.out,HF.out⟩⟩
   case round =>
    clear HM HF;obtain ⟨b,hb,rfl,hH⟩:=hrel;obtain ⟨F,hM,hF⟩:=hH.out;have HM:=dh hM;have HF:=dh hF;clear hH hM hF;by_cases hbg:b<g.length
    ·have haa:a<a+1:=by omega
     have tc:=HM.out.tcell haa hag;go_upto_region 15 with (fail);refine Zr 10 ?_;change wpE _ _ _ _ _ _ _ _ (World.drew _);refine Zg 0 ?_;refine Zg 1 ?_;refine Zg 2 ?_;refine Zc 3 tc ?_;refine Zg 4 ?_;refine Zg 5 ?_;refine Zg 6 ?_;refine Zg 7 ?_;refine Zo 8 fun K hK=>?_;go_simp;refine (one58 vb g rs (classesOf g) _ (HV.out.mono (HM.out.ext.trans (Ext.drew _))) h60 a b hag hbg (fun h=>(right_super (Hr.out a hag) h).1) (fun k hk=>(Hrt.out k hk).1)).mono ?_;rintro e w4 ⟨res,rfl,hres,hE⟩;have HM2:=dh (HM.out.mono ((Ext.drew _).trans hE));have Hres:=dh hres;refine hK _ _ (hE) ?_; clear hK K;clear hE hres tc HM;have rc1:=(HM2.out.row a haa).cell hbg;have rf1:=(HM2.out.row a haa).free b;refine Zg 9 ?_;refine wpE_last rfl (by kernel_rfl) (by kernel_rfl) (by kernel_rfl) (fun K hK=>?_);go_simp;refine hK _ _ ?_;clear hK K;have HM3:=dh (HM2.out.put haa b res);have HF2:=dh (show NextOk g.length (succF g (classesOf g) rs) a (b+1) (fun i=>if i=a then putB (F a) b res else F i) from fun x y hx hy h=>by
      by_cases e:x=a
      ·subst e;simp only [if_true];unfold putB;by_cases e2:y=b
       ·subst e2; rw [if_pos rfl]; exact Hres.out
       ·rw [if_neg e2]; exact HF.out x y hx hy (by omega)
      ·simp only [if_neg e]; exact HF.out x y hx hy (by omega))
     clear rc1 rf1 HM2;go_wp2_with fail;go_roundw
     case rel=>exact ⟨b+1,by omega,by go_num,dh ⟨_,HM3.out,HF2.out⟩⟩
     case measure=>simp [intOf]; omega
    ·have hbn:b=g.length:=by omega
     subst hbn;have HF:=dh (show NextOk g.length (succF g (classesOf g) rs) (a+1) 0 F from fun x y hx hy h=>HF.out x y hx hy (by omega));go_wp2_with fail;go_roundw
     case rel=>exact ⟨a+1,by omega,by go_num,dh ⟨_,_,HM.out,HF.out⟩⟩
     case measure=>simp [intOf]; omega
  ·have han:a=g.length:=by omega
   subst han;have HM:=dh hM;have HF:=dh hF;have HI:=dh (show FarI w wr vb g.length (.slice ga g.length gc) (.slice ra rs.length rc) r (classesOf g) t rb F (.slice none 0 0) [] (fun _ _=>0) from
    ⟨HE3.out.trans hM.ext,hvlo,(hM.ext.block _ (row_lt Henv.out)).trans Henv.out,Hcls.out.ext hM.ext,hM.base HE3.out,OwnL.nil _,fun i hi=>absurd hi (Nat.not_lt_zero _)⟩)
   clear hM hF HM;go_upto_region 17 with (fail);rename World=>W5;obtain ⟨i0,hi,hz0,hz1,hz2⟩:=info_parts info35;have Hmk2:=dh (makeInts g.length (by omega));go_loopw [12,13,14,15,16,17] (fun av _ _ _ _ _ wr=>∃ a:Nat,a<=g.length/\av=.int .i64 a/\Hid (∃ fv fbs D,FarI w wr vb g.length (.slice ga g.length gc) (.slice ra rs.length rc) r (classesOf g) t rb F fv fbs D/\fbs.length=a/\∀ i,i<a->FarOk g.length (succF g (classesOf g) rs) i (D i))) (fun av _ _ _ _ _ _=>g.length-(intOf av).toNat)
   case atStart=>exact ⟨0,Nat.zero_le _,rfl,dh ⟨_,_,_,HI.out,rfl,fun i hi=>absurd hi (Nat.not_lt_zero _)⟩⟩
   case round =>
    clear HI
    rename_i wr
    obtain ⟨a,ha,rfl,hH⟩:=hrel;obtain ⟨fv,fbs,D,hI,hlen,hD⟩:=hH.out;have HI:=dh hI;have Hlen:=dh hlen;have HD:=dh hD;clear hH hI hlen hD;by_cases hag:a<g.length
    ·have hmk:=Hmk2.out;go_upto_region 21 with (fail);clear hmk;obtain ⟨W0,hW0⟩:∃ W0:World,W0=wr:=⟨_,rfl⟩;rw [<- hW0] at HI ⊢;have HR:=dh (RowI.make W0 g.length);have HE0:=dh (Ext.alloc W0 (.cells (madeCells #[.int .i64 0] g.length) 3));clear hW0;go_loopw [14] (fun bv wx=>∃ b:Nat,b<=g.length/\bv=.int .i64 b/\Hid (Ext W0 wx/\RowI wx W0.heap.size g.length fun i=>if i<b then -1 else 0)) (fun bv _=>g.length-(intOf bv).toNat)
     case atStart=>exact ⟨0,Nat.zero_le _,rfl,dh ⟨HE0.out,HR.out.congr (fun i _=>by simp)⟩⟩
     case round =>
      clear HE0 HR;obtain ⟨b,hb,rfl,hJ⟩:=hrel;have HE0:=dh hJ.out.1;have HR:=dh hJ.out.2;clear hJ;by_cases hbg:b<g.length
      ·have cb:=HR.out.cell hbg;have fb:=HR.out.free b;have HE1:=dh (Below.setCell HE0.out (Nat.le_refl _) (.int .i64 (-1)):Ext W0 (wr.setCell ⟨W0.heap.size,b,none⟩ (.int .i64 (-1))));have HR1:=dh ((HR.out.set b (-1)).congr (G:=fun i=>if i<b+1 then -1 else 0) (fun i _=>by
        by_cases e:i=b
        ·subst e; rw [if_pos rfl,if_pos (by omega)]
        ·rw [if_neg e];by_cases h:i<b
         ·rw [if_pos h,if_pos (by omega)]
         ·rw [if_neg h,if_neg (by omega)]))
       go_wp2_with fail;go_roundw
       case rel=>exact ⟨b+1,by omega,by go_num,dh ⟨HE1.out,HR1.out⟩⟩
       case measure=>simp [intOf]; omega
      ·have HR:=dh (HR.out.congr (G:=fun _=>-1) (fun i hi=>by rw [if_pos (by omega)]));have cb:=HR.out.cell hag;have fb:=HR.out.free a;have HE1:=dh (Below.setCell HE0.out (Nat.le_refl _) (.int .i64 0):Ext W0 (wr.setCell ⟨W0.heap.size,a,none⟩ (.int .i64 0)));have HR1:=dh ((HR.out.set a 0).congr (G:=setF (fun _=>-1) a 0) (fun i _=>rfl));go_upto_region 26 with (fail);clear cb fb;have hB:=BfsF.start W0 g.length a _ HE1.out HR1.out;rw [World.size_setCell] at hB;have HB:=dh hB;clear hB HE1 HR1 HR HE0;rename World=>W6;go_loopg [15,16,17] (2*g.length+1) (fun N v _ _ wx=>Hid (∃ f Q,BfsF W0 wx g.length f v Q/\FInv g.length (succF g (classesOf g) rs) a f Q/\2*freeN g.length f+Q.length<=N/\N<=2*g.length+1))
       case atStart=>exact dh ⟨_,_,HB.out,FInv.start hag,by have:=freeN_le g.length (setF (fun _=>-1) a 0); simp only [List.length_singleton]; omega,Nat.le_refl _⟩
       case round =>
        clear HB;obtain ⟨f,Q,hB,hW,hN,hN2⟩:=hrel.out;clear hrel;obtain ⟨gq,oq,cq,curq,rfl,-⟩:=id hB.que;cases Q with
        | nil =>
         have HB:=dh hB;have Hfar:=dh (hW.done Hs.out hag);have HI2:=dh (HI.out.mono hB.ext);have hef:=row_cell HI2.out.env (j:=3) rfl;have hff:=row_free HI2.out.env 3;have hIsz:=HI2.out.ext.size;clear hB hW hN;go_wp2_with (at_builtin; refine wpList_appendL rfl (.tmp 128) (.tmp 130) 105 rfl w.heap.size 35 i0 (.slice none 0 0) 1 24 Tryz.underlying105 hi hz0 hz1 hz2 rfl (by decide) _ _ rfl (own_later HI2.out.own (Ext.alloc _ _)) rfl (rowN_one g.length W0.heap.size) (rowN_cells _) ?y1 ?y2 ?y3 ?_)
         case y1=>have:=Hlen.out; unfold maxLen; simp only [List.length_singleton]; omega
         case y2=>have:=Hlen.out; simp only [List.length_singleton]; omega
         case y3=>rw [World.size_alloc]; omega
         intro v' W7 hO2 hg2 hat2;have hIA:=HI2.out.mono (Ext.alloc _ (.cells #[.slice (some ⟨W0.heap.size,0,none⟩) g.length g.length] 35));have HP:=dh (hIA.push (HB.out.row.ext (Ext.alloc _ _)) hO2 hg2);have henv7:=(hg2.block vb (row_lt hIA.env) (fun e=>by
          obtain ⟨cur,hc⟩:=own_type hIA.own e.symm;exact ne_type hIA.env hc (by decide) rfl)).trans hIA.env
         have c3:=row_cell henv7 (j:=3) rfl;have f3:=row_free henv7 3;obtain ⟨css,_,_,_,hrow⟩:=id hO2;obtain ⟨xa,xc,rfl⟩:=owns_slice hrow;have HD2:=dh (show ∀ i,i<a+1->FarOk g.length (succF g (classesOf g) rs) i (if i=fbs.length then f else D i) from fun i hi=>by
          by_cases e:i=fbs.length
          ·rw [if_pos e,e,Hlen.out]; exact Hfar.out
          ·rw [if_neg e]; exact HD.out i (by have:=Hlen.out; omega))
         have Hl2:=dh (show (fbs++[W0.heap.size]).length=a+1 by rw [List.length_append,List.length_singleton,Hlen.out]);have hl1:(fbs++[W0.heap.size]).length=fbs.length+1:=by simp
         rw [hl1] at HP;clear hO2 hg2 hat2 hIA henv7 hef hff hrow hl1;go_wp2_with fail;go_roundw
         case rel=>exact ⟨a+1,by omega,by go_num,dh ⟨_,_,_,HP.out,Hl2.out,HD2.out⟩⟩
         case measure=>simp [intOf]; omega
        | cons x q =>
         obtain ⟨hxn,hx0⟩:=hW.que x (by simp);obtain ⟨v2,hsl,hT2,hob⟩:=slice_tailA hB.que;obtain ⟨gq',oq',cq',curq',he,k1,k2,k3,k4,k5,k6⟩:=id hB.que;cases he;have e0:wr.cell? ⟨gq,oq,none⟩=some (.int .i64 x):=row_cell k2 (by simpa using k6 0 x rfl);simp only [List.length_cons] at hN hsl ⊢;obtain ⟨g8,o8,c8,cur8,rfl,-⟩:=id hT2;have HB:=dh (hB.pop hT2);have HL:=dh hW.look;have hlen:(0:Int)<(q.length:Int)+1:=by omega
         clear hB hW hT2 hob k1 k2 k3 k4 k5 k6 hx0;go_upto_region 30 with (fail);clear hsl e0 hlen;rename World=>W7;have hM0:2*freeN g.length f+q.length<=gk-1:=by omega
         have hgk:0<gk:=by omega
         go_loopw [15,17] (fun v bv wx=>∃ b:Nat,b<=g.length/\bv=.int .i64 b/\Hid (∃ f Q,BfsF W0 wx g.length f v Q/\LookF g.length (succF g (classesOf g) rs) a x b f Q/\2*freeN g.length f+Q.length<=gk-1)) (fun _ bv _=>g.length-(intOf bv).toNat)
         case atStart=>exact ⟨0,Nat.zero_le _,rfl,dh ⟨f,q,HB.out,HL.out,hM0⟩⟩
         case round =>
          clear HB HL hM0 hN;obtain ⟨b,hb,rfl,hH⟩:=hrel;obtain ⟨f,Q,hB,hL,hM⟩:=hH.out;clear hH;obtain ⟨gq,oq,cq,curq,rfl,-⟩:=id hB.que;by_cases hbg:b<g.length
          ·have hmat:=HI.out.mat.mono hB.ext;have tc:=hmat.tcell hxn hxn;have rc1:=(hmat.row x hxn).cell hbg;have fc:=hB.row.cell hbg;have fx:=hB.row.cell hxn;have HB:=dh hB;have HL:=dh hL;have Hfx:=dh (HF.out x b hxn hbg (Or.inl hxn));have hval:=hL.val x hxn;have hfx0:=hL.fx.2;clear hB hL hmat;cases hF:F x b
           ·rw [hF] at rc1;have HL:=dh (HL.out.skip hbg (fun h=>by rw [Hfx.out.2 h] at hF; cases hF));clear hF hval hfx0;go_wp2_with fail;go_roundw
            case rel=>exact ⟨b+1,by omega,by go_num,dh ⟨f,Q,HB.out,HL.out,hM⟩⟩
            case measure=>simp [intOf]; omega
           ·rw [hF] at rc1;have Hmem:=dh (Hfx.out.1 hF);clear hF Hfx;rcases Int.lt_or_le (f b) 0 with hfb | hfb
            rotate_left
            ·have HL:=dh (HL.out.skip hbg (fun _=>hfb));have hfb2:¬ f b<0:=by omega
             clear hval hfx0 hfb;go_wp2_with fail;go_roundw
             case rel=>exact ⟨b+1,by omega,by go_num,dh ⟨f,Q,HB.out,HL.out,hM⟩⟩
             case measure=>simp [intOf]; omega
            ·have hun:=freeN_set (v:=f x+1) hbg hfb (by omega);have HL:=dh (HL.out.push hbg Hmem.out hfb);have hmk:=HB.out.set b (f x+1);have sf:=HB.out.row.free b;have hwr:IntKind.i64.wrap (f x+1)=f x+1:=by rw [IntKind.wrap_i64]; omega
             clear hval;go_upto_region 34 with (fail);obtain ⟨W8,hW8⟩:∃ W8:World,W8=wr.setCell ⟨W0.heap.size,b,none⟩ (.int .i64 (f x+1)):=⟨_,rfl⟩;rw [<- hW8] at hmk ⊢;have HB2:=dh hmk;have hsz:=hmk.row.lt;clear hW8 hmk HB tc rc1 fc fx sf hwr hfb hfx0;go_wp2_with (at_builtin; refine wpList_append_tail (B:=W0.heap.size+1) (v:=.slice (some ⟨gq,oq,none⟩) Q.length cq) (xs:=Q) ?z1 (.tmp 120) (.tmp 122) ?z2 ?z3 (HB2.out.que.ext (Ext.alloc _ _)) ⟨W8.heap.size,0,none⟩ b ?z4 ?z5 (cell_new1 _ _ _) ?z6 ?z7 ?z8 ?_)
             case z1=>rfl
             case z2=>rfl
             case z3=>rfl
             case z4=>rfl
             case z5=>rfl
             case z6=>rfl
             case z7=>omega
             case z8=>rw [World.size_alloc]; omega
             intro v' W9 hq;have hT:=hq.tail;have hb3:=hq.bfsF (HB2.out.mono (Ext.alloc W8 (.cells #[.int .i64 b] 3)));clear hq;obtain ⟨gA,oA,cA,curA,rfl,-⟩:=id hT;have HB3:=dh hb3;have hm2:2*freeN g.length (setF f b (f x+1))+(Q++[b]).length<=gk-1:=by rw [List.length_append,List.length_singleton]; omega
             have Hm2:=dh hm2;clear hb3 hT hun HB2 hsz hm2;rw [List.length_append,List.length_singleton] at HB3 ⊢;go_wp2_with fail;go_roundw
             case rel=>exact ⟨b+1,by omega,by go_num,dh ⟨_,_,HB3.out,HL.out,Hm2.out⟩⟩
             case measure=>simp [intOf]; omega
          ·have hbn:b=g.length:=by omega
           subst hbn;have HW:=dh hL.all;have HB:=dh hB;clear hB hL;go_wp2_with fail
           go_roundg (gk-1)
           case measure=>omega
           case rel=>exact dh ⟨f,Q,HB.out,HW.out,hM,by omega⟩
    ·have han:a=g.length:=by omega
     subst han;have HT2:=dh (HI.out.donT Hlen.out);have HV2:=dh (HI.out.done Hlen.out Hg.out Hre.out (classesOf_le g) h400);go_wp2_with fail;go_ret2;exact ⟨HI.out.ext,Or.inl ⟨H0.out,vb,D,rfl,HV2.out,HD.out,HT2.out⟩⟩
theorem inR25 (ga:Option Addr) (n gc:Nat) (g:List Ty) (ra:Option Addr) (rn rc:Nat) (rs:List Reveal) (w:World) (hg:Graph w (.slice ga n gc) g) (hre:Reveals w (.slice ra rn rc) rs) :
  Calls Tryz.prog 25 #[.slice ga n gc,.slice ra rn rc] w (InRPost w g rs):=by
 refine (inR25T ga n gc g ra rn rc rs w hg hre).mono ?_;rintro e w' ⟨hE,(⟨h0,vb,D,rfl,hF,hD,_⟩ | h)⟩
 ·exact ⟨hE,Or.inl ⟨h0,vb,D,rfl,hF,hD⟩⟩
 ·exact ⟨hE,Or.inr h⟩
end
section
open Go.RowKit Go.Proofs
theorem asked_no {n:Nat} {xs:List Int} {k:Nat} (hk:k<xs.length) (h:hasI n (nth xs k)=false):askedR n xs=1:=by
 rcases askedR_cases n xs with ⟨_,hin⟩ | ⟨h1,_⟩
 ·rw [hasI_iff.2 (hin _ (nth_mem hk))] at h; cases h
 ·exact h1
theorem asked_yes {n:Nat} {xs:List Int} (h:∀ k,k<xs.length->hasI n (nth xs k)=true):askedR n xs=0:=by
 rcases askedR_cases n xs with ⟨h0,_⟩ | ⟨_,i,hi,hh⟩
 ·exact h0
 ·obtain ⟨k,hk,rfl⟩:=List.getElem_of_mem hi;have:=h k hk;rw [nth_eq hk] at this;rw [this] at hh; cases hh
theorem askedR49 (vb:Nat) (ga:Option Addr) (n gc:Nat) (hn:n<=400) (xa:Option Addr) (xn xc:Nat) (xs:List Int) (w:World) (hc0:w.cell? ⟨vb,0,none⟩=some (.slice ga n gc)) (hx:Ints w (.slice xa xn xc) xs) :
  Calls Tryz.prog 49 #[.pointer (some ⟨vb,0,none⟩),.slice xa xn xc] w fun e w'=>e=.returned (.int .i64 (askedR n xs))/\Ext w w':=by
 have hxb:=(SlW.bound hx).2;obtain rfl:=SlW.len hx;have Hx:=dh hx;clear hx;obtain ⟨q,hq⟩:∃ q,q=askedR n xs:=⟨_,rfl⟩;rw [<- hq];have Hno:=dh (show ∀ k,k<xs.length->hasI n (nth xs k)=false->q=1 from fun k hk h=>by rw [hq]; exact asked_no hk h);have Hyes:=dh (show (∀ k,k<xs.length->hasI n (nth xs k)=true)->q=0 from fun h=>by rw [hq]; exact asked_yes h);clear hq
 go_enter Tryz.func49,Tryz.ntmps49
 go_upto_region 2 with (fail);go_loopw [5] (fun i wr=>∃ k:Nat,k<=xs.length/\i=.int .i64 k/\Hid (Ext w wr/\∀ j,j<k->hasI n (nth xs j)=true)) (fun i _=>xs.length-(intOf i).toNat)
 case atStart=>exact ⟨0,Nat.zero_le _,rfl,dh ⟨Ext.refl _,fun j hj=>absurd hj (Nat.not_lt_zero _)⟩⟩
 case round =>
  obtain ⟨k,hk,rfl,hH⟩:=hrel;have c0:=hH.out.1.cell hc0;by_cases hlt:k<xs.length
  ·obtain ⟨b,off,hab,hbl,cx,_,_⟩:=Ints.at (Ints.mono hH.out.1 Hx.out) hlt;cases hab;obtain ⟨x,hxx⟩:∃ x,x=nth xs k:=⟨_,rfl⟩;rw [<- hxx] at cx;have Hxx:=dh hxx;clear hxx;cases hin:hasI n x
   ·have Hf:=dh (Hno.out k hlt (by rw [<- Hxx.out]; exact hin));rcases Int.lt_or_le x 0 with h0 | h0
    ·clear hin;go_upto_region 4 with (fail)
     go_quiet (fail)
     go_wp2_with fail;go_ret;exact ⟨by rw [Hf.out]; rfl,below_drewN hH.out.1 _⟩
    ·have hge:=hasI_no hin h0;have h0':¬ x<0:=by omega
     clear hin;go_upto_region 4 with (fail)
     go_quiet (fail)
     go_wp2_with fail;go_ret;exact ⟨by rw [Hf.out]; rfl,below_drewN hH.out.1 _⟩
   ·have hin2:=hasI_iff.1 hin;have HJ:=dh (show ∀ j,j<k+1->hasI n (nth xs j)=true from fun j hj=>by
     by_cases e:j=k
     ·rw [e,<- Hxx.out]; exact hin
     ·exact hH.out.2 j (by omega))
    have h0':¬ x<0:=by omega
    have h1':¬ (n:Int)<=x:=by omega
    clear hin hin2;go_upto_region 4 with (fail)
    go_quiet (fail)
    go_wp2_with fail;go_roundw
    case rel=>exact ⟨k+1,by omega,by go_num,dh ⟨below_drewN hH.out.1 _,HJ.out⟩⟩
    case measure=>simp [intOf]; omega
  ·have Hf:=dh (Hyes.out (fun j hj=>hH.out.2 j (by omega)));go_wp2_with fail;go_ret;exact ⟨by rw [Hf.out]; rfl,hH.out.1⟩
section
variable {W:World} {vb:Nat} {g:List Ty} {rs:List Reveal} {C:Nat->Nat} {D:Nat->Nat->Int}
theorem EnvF.rows (h:EnvF W vb g rs C D) (hn:0<g.length):∃ fb fo fc,∃ row:Nat->Nat,W.cell? ⟨vb,3,none⟩=some (.slice (some ⟨fb,fo,none⟩) g.length fc) /\
  (∀ i,i<g.length->W.cell? ⟨fb,fo+i,none⟩=some (.slice (some ⟨row i,0,none⟩) g.length g.length))/\∀ i,i<g.length->∀ j,j<g.length->W.cell? ⟨row i,j,none⟩=some (.int .i64 (D i j)):=by
 obtain ⟨_,fa,fc,h3,hr⟩:=h;obtain ⟨fb,fo,_,rfl,_,_⟩:=hr 0 hn;have key:∀ i,∃ r,i<g.length->W.cell? ⟨fb,fo+i,none⟩=some (.slice (some ⟨r,0,none⟩) g.length g.length)/\∀ j,j<g.length->W.cell? ⟨r,j,none⟩=some (.int .i64 (D i j)):=fun i=>by
  by_cases hi:i<g.length
  ·obtain ⟨b,off,r,e,h1,h2⟩:=hr i hi;cases e;exact ⟨r,fun _=>⟨h1,h2⟩⟩
  ·exact ⟨0,fun h=>absurd h hi⟩
 exact ⟨fb,fo,fc,fun i=>Classical.choose (key i),h3,fun i hi=>(Classical.choose_spec (key i) hi).1,fun i hi=>(Classical.choose_spec (key i) hi).2⟩
theorem EnvF.graph (h:EnvF W vb g rs C D):∃ ga gc,W.cell? ⟨vb,0,none⟩=some (.slice ga g.length gc):=by
 obtain ⟨⟨ga,gc,_,_,_,_,h0,_⟩,_⟩:=h;exact ⟨ga,gc,h0⟩
theorem belowR18 (S:List Nat) (hv:EnvF W vb g rs C D) (h400:g.length<=400) (hL:∀ a b,a<g.length->b<g.length->(0<=D a b↔(nth S a).testBit b=true)) (a b:Int) (hx:I64 a) (hy:I64 b) :
  Calls Tryz.prog 18 #[.pointer (some ⟨vb,0,none⟩),.int .i64 a,.int .i64 b] W fun e w'=>e=.returned (.tuple #[.bool (belowR g.length S a b).1,.int .i64 (belowR g.length S a b).2])/\Ext W w':=by
 obtain ⟨ga,gc,h0⟩:=hv.graph;have hcall:=dh (askedR49 vb ga g.length gc h400 _ 2 2 [a,b] _ ((Ext.alloc _ _).cell h0) (ints_two W a b hx hy));have Hv:=dh hv;have HL:=dh hL;clear hv hL
 go_enter Tryz.func18,Tryz.ntmps18
 go_wp2_with fail;refine hcall.out.mono ?_;rintro e w1 ⟨rfl,hE⟩;have HE:=dh ((Ext.alloc _ _).trans hE);clear hE hcall;rcases asked01 g.length [a,b] with k | k
 ·obtain ⟨x,y,rfl,rfl,hx1,hy1⟩:=two_in k;have Hf:=dh (show belowR g.length S x y=((nth S x).testBit y,0) by unfold belowR; rw [if_pos k]; rfl);obtain ⟨fb,fo,fc,row,c3,cr,cd⟩:=(Hv.out.mono HE.out).rows (by omega);have c1:=cr x hx1;have c2:=cd x hx1 y hy1;have hL:=HL.out x y hx1 hy1;rw [k];clear k h0 cr cd;have Hb:=dh (show (nth S x).testBit y=decide (0<=D x y) by rw [Bool.eq_iff_iff,decide_eq_true_iff]; exact hL.symm);clear hL;go_wp2_with fail;go_ret2;exact ⟨by rw [Hf.out,Hb.out]; rfl,HE.out⟩
 ·have Hf:=dh (show belowR g.length S a b=(false,1) by unfold belowR; rw [if_neg (by rw [k]; decide)]);rw [k];clear k h0;go_wp2_with fail;go_ret2;exact ⟨by rw [Hf.out]; rfl,HE.out⟩
theorem aboveR20 (S:List Nat) (hv:EnvF W vb g rs C D) (h400:g.length<=400) (hL:∀ a b,a<g.length->b<g.length->(0<=D a b↔(nth S a).testBit b=true)) (a:Int) (hx:I64 a) :
  Calls Tryz.prog 20 #[.pointer (some ⟨vb,0,none⟩),.int .i64 a] W (RowPost W (if askedR g.length [a]=0 then numsOf (aboveL g.length S a.toNat) else []) (askedR g.length [a])):=by
 obtain ⟨ga,gc,h0⟩:=hv.graph;obtain ⟨i0,hi,hz0,hz1,hz2⟩:=info_parts info3;have hcall:=dh (askedR49 vb ga g.length gc h400 _ 1 1 [a] _ ((Ext.alloc _ _).cell h0) (ints_one W a hx));have Hv:=dh hv;have HL:=dh hL;obtain ⟨er,her⟩:∃ er,er=askedR g.length [a]:=⟨_,rfl⟩;obtain ⟨L,hLL⟩:∃ L,L=(if askedR g.length [a]=0 then numsOf (aboveL g.length S a.toNat) else []):=⟨_,rfl⟩;rw [<- hLL,<- her];rw [<- her] at hcall;have Her:=dh her;have HLL:=dh hLL;clear hv hL her hLL
 go_enter Tryz.func20,Tryz.ntmps20
 go_wp2_with fail;refine hcall.out.mono ?_;rintro e w1 ⟨rfl,hE⟩;have HE:=dh ((Ext.alloc _ _).trans hE);clear hE hcall;have h01:er=0\/er=1:=by rw [Her.out]; exact asked01 _ _
 by_cases h1:er=1
 ·have Hl:=dh (show L=[] by rw [HLL.out,if_neg (by rw [<- Her.out,h1]; decide)]);subst h1;clear h0 h01;go_wp2_with fail;go_ret2;exact ⟨none,0,0,rfl,by rw [Hl.out]; exact SlW.nil _ _ _,HE.out⟩
 have h2:er=0:=by omega
 obtain ⟨x,hax,hx1⟩:∃ x:Nat,a=x/\x<g.length:=by
  rcases askedR_cases g.length [a] with ⟨_,hin⟩ | ⟨h3,_⟩
  ·have:=hin a (by simp);exact ⟨a.toNat,by omega,by omega⟩
  ·rw [<- Her.out] at h3; exact absurd h3 h1
 subst hax;have Hl:=dh (show L=numsOf (aboveL g.length S x) by rw [HLL.out,if_pos (by rw [<- Her.out,h2])]; rfl);clear h01 h1;subst h2;obtain ⟨fb,fo,fc,row,c3,cr,cd⟩:=(Hv.out.mono HE.out).rows (by omega);have c0:=HE.out.cell h0;have c1:=cr x hx1;have Hcd:=dh (cd x hx1);clear h0 cr cd;go_upto_region 6 with (fail);go_loopw [7,8] (fun v bv wx=>∃ b:Nat,b<=g.length/\bv=.int .i64 b/\Hid (RefI w1 wx v (numsOf (aboveL b S x)))) (fun _ bv _=>g.length-(intOf bv).toNat)
 case atStart=>exact ⟨0,Nat.zero_le _,rfl,dh ⟨Ext.refl _,OwnL.nil _⟩⟩
 case round =>
  obtain ⟨b,hb,rfl,HR⟩:=hrel;have HE2:=HR.out.ext;have e0:=HE2.cell c0;have e3:=HE2.cell c3;have e1:=HE2.cell c1;by_cases hbl:b<g.length
  ·have e2:=HE2.cell (Hcd.out b hbl);have hL:=HL.out x b hx1 hbl;have hlen:(numsOf (aboveL b S x)).length<=400:=by
    have:=List.length_filter_le (fun i=>(nth S x).testBit i) (List.range b);unfold numsOf aboveL;rw [List.length_map];simp at this; omega
   have hsz:=HE2.size;clear HE2;cases hbt:(nth S x).testBit b
   ·have hn:¬ 0<=D x b:=fun h=>by rw [hL.1 h] at hbt; cases hbt
    have HR2:=dh (show RefI w1 wr u7 (numsOf (aboveL (b+1) S x)) by
     have:aboveL (b+1) S x=aboveL b S x:=by unfold aboveL; rw [filter_snoc,hbt]; simp
     rw [this]; exact HR.out)
    clear hbt hL;go_wp2_with fail;go_roundw
    case rel=>exact ⟨b+1,by omega,by go_num,HR2⟩
    case measure=>simp [intOf]; omega
   ·have hn:0<=D x b:=hL.2 hbt;have Hab:=dh (show numsOf (aboveL (b+1) S x)=numsOf (aboveL b S x)++[(b:Int)] by unfold aboveL numsOf; rw [filter_snoc,hbt]; simp);clear hbt hL;go_wp2_with (at_builtin; refine wpList_appendL rfl (.tmp 36) (.tmp 38) 35 rfl w1.heap.size 3 i0 (.int .i64 0) 1 8 Tryz.underlying35 hi hz0 hz1 hz2 rfl (by decide) _ _ rfl (own_later HR.out.own (Ext.alloc _ _)) rfl (one_int _ ⟨by omega,by omega⟩) int_cells ?y1 ?y2 ?y3 ?_)
    case y1=>unfold maxLen; simp only [List.length_singleton]; omega
    case y2=>simp only [List.length_singleton]; omega
    case y3=>rw [World.size_alloc]; omega
    intro v' W2 hO2 hg2 hat2;have HR2:=dh (RefI.push HR.out (Ext.alloc _ _) hO2 hg2);clear hO2 hg2 hat2;go_wp2_with fail;go_roundw
    case rel=>exact ⟨b+1,by omega,by go_num,by rw [Hab.out]; exact HR2⟩
    case measure=>simp [intOf]; omega
  ·have hbn:b=g.length:=by omega
   subst hbn;have hlen:(numsOf (aboveL g.length S x)).length<=400:=by
    have:=List.length_filter_le (fun i=>(nth S x).testBit i) (List.range g.length);unfold numsOf aboveL;rw [List.length_map];simp at this; omega
   have hI:Ints wr u7 (numsOf (aboveL g.length S x)):=HR.out.own.slw (by unfold maxBytes; omega);obtain ⟨xa,xc,rfl,_⟩:=id hI;have HI:=dh hI;clear hI HE2;go_wp2_with fail;go_ret2;exact ⟨xa,_,xc,rfl,by rw [Hl.out]; exact HI.out,HE.out.trans HR.out.ext⟩
def commB (S:List Nat) (a b c:Nat):Bool:=(nth S a).testBit c&&(nth S b).testBit c
theorem join_find (n:Nat) (S:List Nat) (a b:Nat):joinL n S a b=(List.range n).find? fun c=>commB S a b c&&(List.range n).all fun d=>!commB S a b d||(nth S c).testBit d:=by
 unfold joinL commonL;rw [List.find?_filter]
 congr 1
 funext c;rw [List.all_filter,Bool.eq_iff_iff,decide_eq_true_iff,<- Bool.and_eq_true];exact Iff.rfl
def leastB (n:Nat) (S:List Nat) (a b c:Nat):Bool:=commB S a b c&&(List.range n).all fun d=>!commB S a b d||(nth S c).testBit d
theorem join_some {n:Nat} {S:List Nat} {a b c:Nat} (hc:c<n) (h1:leastB n S a b c=true) (h:∀ j,j<c->leastB n S a b j=false):joinL n S a b=some c:=by rw [join_find]; exact find_some hc h1 h
theorem join_none {n:Nat} {S:List Nat} {a b:Nat} (h:∀ j,j<n->leastB n S a b j=false):joinL n S a b=none:=by rw [join_find]; exact find_none h
theorem joinR22 (S:List Nat) (hv:EnvF W vb g rs C D) (h400:g.length<=400) (hL:∀ a b,a<g.length->b<g.length->(0<=D a b↔(nth S a).testBit b=true)) (a b:Int) (hx:I64 a) (hy:I64 b) :
  Calls Tryz.prog 22 #[.pointer (some ⟨vb,0,none⟩),.int .i64 a,.int .i64 b] W fun e w'=>e=.returned (.tuple #[.int .i64 (joinR g.length S a b).1,.bool (joinR g.length S a b).2.1,.int .i64 (joinR g.length S a b).2.2])/\Ext W w':=by
 obtain ⟨ga,gc,h0⟩:=hv.graph;have hcall:=dh (askedR49 vb ga g.length gc h400 _ 2 2 [a,b] _ ((Ext.alloc _ _).cell h0) (ints_two W a b hx hy));have Hv:=dh hv;have HL:=dh hL;obtain ⟨q1,hq1⟩:∃ q,q=(joinR g.length S a b).1:=⟨_,rfl⟩;obtain ⟨q2,hq2⟩:∃ q,q=(joinR g.length S a b).2.1:=⟨_,rfl⟩;obtain ⟨q3,hq3⟩:∃ q,q=(joinR g.length S a b).2.2:=⟨_,rfl⟩;rw [<- hq1,<- hq2,<- hq3];have Hq:=dh (show ∀ x y z,joinR g.length S a b=(x,y,z)->q1=x/\q2=y/\q3=z from fun x y z h=>by rw [hq1,hq2,hq3,h]; exact ⟨rfl,rfl,rfl⟩);clear hv hL hq1 hq2 hq3
 go_enter Tryz.func22,Tryz.ntmps22
 go_wp2_with fail;refine hcall.out.mono ?_;rintro e w1 ⟨rfl,hE⟩;have HE:=dh ((Ext.alloc _ _).trans hE);clear hE hcall;rcases asked01 g.length [a,b] with k | k
 rotate_left
 ·obtain ⟨rfl,rfl,rfl⟩:=Hq.out 0 false 1 (by unfold joinR; rw [if_neg (by rw [k]; decide)]);rw [k];clear k h0 Hq;go_wp2_with fail;go_ret3;exact ⟨rfl,HE.out⟩
 obtain ⟨x,y,rfl,rfl,hx1,hy1⟩:=two_in k;have Hq2:=dh (show ∀ o,joinL g.length S x y=o->joinR g.length S x y=(match o with | some t=>((t:Int),true,0) | none=>(0,false,0)) from fun o h=>by
  unfold joinR;rw [if_pos k,Int.toNat_natCast,Int.toNat_natCast,h];cases o <;> rfl)
 obtain ⟨fb,fo,fc,row,c3,cr,cd⟩:=(Hv.out.mono HE.out).rows (by omega);have c0:=HE.out.cell h0;have ca:=cr x hx1;have cb:=cr y hy1;have Hcr:=dh cr;have Hcd:=dh cd;have HA:=dh (fun d hd=>HL.out x d hx1 hd);have HB:=dh (fun d hd=>HL.out y d hy1 hd);rw [k];clear k h0 cr cd;go_upto_region 6 with (fail);go_loopw [11,12,13] (fun cv _ _ wx=>∃ c:Nat,c<=g.length/\cv=.int .i64 c/\wx=w1/\Hid (∀ j,j<c->leastB g.length S x y j=false)) (fun cv _ _ _=>g.length-(intOf cv).toNat)
 case atStart=>exact ⟨0,Nat.zero_le _,rfl,rfl,dh (fun j hj=>absurd hj (Nat.not_lt_zero _))⟩
 case round =>
  obtain ⟨c,hc,rfl,rfl,Hno⟩:=hrel;rename World=>w1;by_cases hcl:c<g.length
  ·have cc:=Hcr.out c hcl;have da:=Hcd.out x hx1 c hcl;have db:=Hcd.out y hy1 c hcl;have hA:=HA.out c hcl;have hB:=HB.out c hcl;have Hnx:=dh (show leastB g.length S x y c=false->∀ j,j<c+1->leastB g.length S x y j=false from fun h j hj=>by
    by_cases e:j=c
    ·rw [e]; exact h
    ·exact Hno.out j (by omega))
   cases hcm:commB S x y c
   ·have HJ:=dh (Hnx.out (by unfold leastB; rw [hcm]; rfl));unfold commB at hcm;cases hba:(nth S x).testBit c
    ·have n1:¬ 0<=D x c:=fun h=>by rw [hA.1 h] at hba; cases hba
     clear hcm hA hB hba;go_upto_region 10 with (fail);go_loopw [12,13] (fun lv dv wx=>lv=.bool false/\dv=.int .i64 0/\wx=w1) (fun _ _ _=>0)
     case atStart=>exact ⟨by first | rfl | simp [n1] | simp [n2],rfl,rfl⟩
     case round =>
      obtain ⟨rfl,rfl,rfl⟩:=hrel;rename World=>w1;have hpos:(0:Int)<g.length:=by omega
      go_wp2_with fail;go_roundw
      case rel=>exact ⟨c+1,by omega,by go_num,by trivial,HJ⟩
      case measure=>simp [intOf]; omega
    ·have n1:0<=D x c:=hA.2 hba;have n2:¬ 0<=D y c:=fun h=>by rw [hba,hB.1 h] at hcm; cases hcm
     clear hcm hA hB hba;go_upto_region 10 with (fail);go_loopw [12,13] (fun lv dv wx=>lv=.bool false/\dv=.int .i64 0/\wx=w1) (fun _ _ _=>0)
     case atStart=>exact ⟨by first | rfl | simp [n1] | simp [n2],rfl,rfl⟩
     case round =>
      obtain ⟨rfl,rfl,rfl⟩:=hrel;rename World=>w1;have hpos:(0:Int)<g.length:=by omega
      go_wp2_with fail;go_roundw
      case rel=>exact ⟨c+1,by omega,by go_num,by trivial,HJ⟩
      case measure=>simp [intOf]; omega
   ·have Hcm:=dh hcm;unfold commB at hcm;rw [Bool.and_eq_true] at hcm;have n1:0<=D x c:=hA.2 hcm.1;have n2:0<=D y c:=hB.2 hcm.2;have HC:=dh (fun d hd=>HL.out c d hcl hd);clear hcm hA hB;go_upto_region 10 with (fail);clear n1 n2 da db;go_loopw [12,13] (fun lv dv wx=>∃ (d:Nat) (l:Bool),d<=g.length/\lv=.bool l/\dv=.int .i64 d/\wx=w1/\Hid ((l=true/\∀ j,j<d->(!commB S x y j||(nth S c).testBit j)=true)\/l=false/\leastB g.length S x y c=false)) (fun _ dv _=>g.length-(intOf dv).toNat)
    case atStart=>exact ⟨0,true,Nat.zero_le _,rfl,rfl,rfl,dh (Or.inl ⟨rfl,fun j hj=>absurd hj (Nat.not_lt_zero _)⟩)⟩
    case round =>
     obtain ⟨d,l,hd,rfl,rfl,rfl,Hl⟩:=hrel;rename World=>w1;cases l
     ·have HJ:=dh (Hnx.out (by rcases Hl.out with ⟨h,_⟩ | ⟨_,h⟩; cases h; exact h));clear Hl;rcases Nat.lt_or_ge d g.length with hdl | hdl
      ·go_wp2_with fail;go_roundw
       case rel=>exact ⟨c+1,by omega,by go_num,by trivial,HJ⟩
       case measure=>simp [intOf]; omega
      ·go_wp2_with fail;go_roundw
       case rel=>exact ⟨c+1,by omega,by go_num,by trivial,HJ⟩
       case measure=>simp [intOf]; omega
     ·have Hall:=dh (show ∀ j,j<d->(!commB S x y j||(nth S c).testBit j)=true by rcases Hl.out with ⟨_,h⟩ | ⟨h,_⟩; exact h; cases h);clear Hl;by_cases hdl:d<g.length
      ·have da:=Hcd.out x hx1 d hdl;have db:=Hcd.out y hy1 d hdl;have dc:=Hcd.out c hcl d hdl;have hA:=HA.out d hdl;have hB:=HB.out d hdl;have hC:=HC.out d hdl;have Hn2:=dh (show (!commB S x y d||(nth S c).testBit d)=true->∀ j,j<d+1->(!commB S x y j||(nth S c).testBit j)=true from fun h j hj=>by
        by_cases e:j=d
        ·rw [e]; exact h
        ·exact Hall.out j (by omega))
       cases hba:(nth S x).testBit d
       ·have m1:¬ 0<=D x d:=fun h=>by rw [hA.1 h] at hba; cases hba
        have HJ:=dh (Hn2.out (by unfold commB; rw [hba]; rfl));clear hba hA hB hC;go_wp2_with fail;go_roundw
        case rel=>exact ⟨d+1,true,by omega,rfl,by go_num,by trivial,dh (Or.inl ⟨rfl,HJ.out⟩)⟩
        case measure=>simp [intOf]; omega
       cases hbb:(nth S y).testBit d
       ·have m1:0<=D x d:=hA.2 hba;have m2:¬ 0<=D y d:=fun h=>by rw [hB.1 h] at hbb; cases hbb
        have HJ:=dh (Hn2.out (by unfold commB; rw [hba,hbb]; rfl));clear hba hbb hA hB hC;go_wp2_with fail;go_roundw
        case rel=>exact ⟨d+1,true,by omega,rfl,by go_num,by trivial,dh (Or.inl ⟨rfl,HJ.out⟩)⟩
        case measure=>simp [intOf]; omega
       have m1:0<=D x d:=hA.2 hba;have m2:0<=D y d:=hB.2 hbb;cases hbc:(nth S c).testBit d
       ·have m3:D c d<0:=by
         rcases Int.lt_or_le (D c d) 0 with h | h
         ·exact h
         ·rw [hC.1 h] at hbc; cases hbc
        have HJ:=dh (show leastB g.length S x y c=false by
         unfold leastB;rw [Hcm.out,Bool.true_and,List.all_eq_false];exact ⟨d,List.mem_range.2 hdl,by unfold commB; rw [hba,hbb,hbc]; decide⟩)
        clear hba hbb hbc hA hB hC;go_wp2_with fail;go_roundw
        case rel=>exact ⟨d+1,false,by omega,rfl,by go_num,by trivial,dh (Or.inr ⟨rfl,HJ.out⟩)⟩
        case measure=>simp [intOf]; omega
       ·have m3:¬ D c d<0:=by have:=hC.2 hbc; omega
        have HJ:=dh (Hn2.out (by rw [hbc]; simp));clear hba hbb hbc hA hB hC;go_wp2_with fail;go_roundw
        case rel=>exact ⟨d+1,true,by omega,rfl,by go_num,by trivial,dh (Or.inl ⟨rfl,HJ.out⟩)⟩
        case measure=>simp [intOf]; omega
      ·have hjn:=join_some hcl (show leastB g.length S x y c=true by
        unfold leastB;rw [Hcm.out,Bool.true_and,List.all_eq_true];exact fun j hj=>Hall.out j (by have:=List.mem_range.1 hj; omega)) Hno.out
       have hq:=Hq.out _ _ _ (Hq2.out _ hjn);have Hr:=dh hq;clear hjn hq;go_wp2_with fail;go_ret3;exact ⟨by rw [Hr.out.1,Hr.out.2.1,Hr.out.2.2]; rfl,HE.out⟩
  ·have hjn:=join_none (S:=S) (a:=x) (b:=y) (n:=g.length) (fun j hj=>Hno.out j (by omega));have hq:=Hq.out _ _ _ (Hq2.out _ hjn);have Hr:=dh hq;clear hjn hq;go_wp2_with fail;go_ret3;exact ⟨by rw [Hr.out.1,Hr.out.2.1,Hr.out.2.2]; rfl,HE.out⟩
end
end
section
open Go.RowKit Go.Proofs Go.Shelf
def fullG:List Reveal:=[⟨⟨#[73,46,84]⟩,true,6⟩]
theorem full45 (w:World):Calls Tryz.prog 45 #[] w fun e w'=>∃ a,e=.returned (.slice (some a) 1 1)/\Ext w w'/\Reveals w' (.slice (some a) 1 1) fullG/\a=⟨w.heap.size,0,none⟩:=by
 go_enter Tryz.func45,Tryz.ntmps45
 go_wp2;go_ret;refine ⟨_,rfl,Ext.alloc _ _,?_,rfl⟩;have h:=heap_alloc_new w (.cells #[.string ⟨#[73,46,84]⟩,.bool true,.int .i64 6] 43);refine ⟨_,1,rfl,by simp [fullG],by simp [fullG,maxBytes],fun i x hx=>?_⟩
 match i,hx with
 | 0,hx =>
  simp [fullG] at hx;subst hx;refine ⟨w.heap.size,0,[.string ⟨#[73,46,84]⟩,.bool true,.int .i64 6],rfl,⟨rfl,by decide⟩,rfl,fun j u hj=>?_⟩;rw [show 0+0*3+j=j by omega];exact row_cell h (by simpa using hj)
end
end Go.Proofs.YtjffkeoajkhbmaaGreat
