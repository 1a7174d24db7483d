/- What types says of signatures, and of the kind of a type. What types says of the methods and overrides of an object, and of brands. -/
import Derived.Test.YtjffkeoajkhbmaaGreatOX2
namespace Go.Proofs.YtjffkeoajkhbmaaGreat
set_option linter.unusedSimpArgs false
set_option linter.unusedVariables false
set_option maxRecDepth 100000
set_option maxHeartbeats 8000000
section
open Go.RowKit Go.Proofs
theorem over177 (a:Option Addr) (n c:Nat) (g:List Ty) (ka:Option Addr) (kn kc:Nat) (ks:List Int) (i:Int) (w:World) (hg:Graph w (.slice a n c) g) (hk:U8s w (.slice ka kn kc) ks) :
  Calls Tryz.prog 177 #[.agg #[.slice a n c],.int .i64 i,.slice ka kn kc] w fun e w'=>e=.returned (.bool (overB g i ks))/\Ext w w':=by
 have hb:=(SlW.bound hg).2;obtain rfl:=SlW.len hg;by_cases hi:0<=i/\i<g.length
 ·obtain ⟨h0,h1⟩:=hi;obtain ⟨j,rfl⟩:=Int.eq_ofNat_of_zero_le h0;have hj:j<g.length:=by omega
  have hh:hasI g.length j=true:=by simp [hasI]; omega
  have hs:=dh (show overB g j ks=ks.any (fun y=>(nth g j).kind==y) by
   unfold overB; rw [hh,Int.toNat_natCast,List.contains_eq_any_beq]; simp)
  obtain ⟨b,off,pa,pl,pc,ma,ml,mc,oa,ol,oc,rfl,hlt,T⟩:=Graph.at hg hj;have hc0:=T.c0
  go_enter Tryz.func177,Tryz.ntmps177
  go_wp2_with fail;refine (has99 _ _ _ (by omega) _ _).mono ?_;rintro e w1 ⟨rfl,hE⟩;have HE:=dh hE;have hk1:=U8s.mono hE (U8s.mono (Ext.alloc _ _) hk);have hc1:=hE.cell ((Ext.alloc _ _).cell hc0);have hbx:=hE.cell (cell_new1 w _ 118);clear hE;rw [hh];go_wp2_with fail;refine (contains193 _ _ _ _ _ _ hk1).mono ?_;rintro e w2 ⟨rfl,rfl⟩;go_wp2;go_ret;exact ⟨ret_bool hs.out.symm,by (repeat (first | exact Ext.refl _ | (refine Ext.trans ?_ (Hid.out (by assumption))) | (refine Ext.trans ?_ (Ext.alloc _ _)) | (refine Ext.trans ?_ (Ext.drew _)) | (refine below_drewN ?_ _)))⟩
 ·have hh:hasI g.length i=false:=by simp [hasI]; omega
  have hs:=dh (show overB g i ks=false by unfold overB; rw [hh]; rfl)
  go_enter Tryz.func177,Tryz.ntmps177
  go_wp2_with fail;refine (has99 _ _ _ (by omega) _ _).mono ?_;rintro e w1 ⟨rfl,hE⟩;have HE:=dh hE; clear hE;rw [hh];go_wp2_with fail;go_ret;exact ⟨ret_bool hs.out.symm,by (repeat (first | exact Ext.refl _ | (refine Ext.trans ?_ (Hid.out (by assumption))) | (refine Ext.trans ?_ (Ext.alloc _ _)) | (refine Ext.trans ?_ (Ext.drew _)) | (refine below_drewN ?_ _)))⟩
theorem raises_snoc (rs:List BA) (k:Nat):(List.range (k+1)).all (raiseB rs)=((List.range k).all (raiseB rs)&&raiseB rs k):=by
 rw [List.range_succ,List.all_append,List.all_cons,List.all_nil,Bool.and_true]
theorem alerted_list:alerted.toList=[65,76,69,82,84,69,68]:=by rw [ByteArray.toList_eq]; rfl
theorem raiseB_alert {rs:List BA} {k:Nat} (h:(nth rs k).toList=[65,76,69,82,84,69,68]):raiseB rs k=((k==0)||strLt (nth rs (k-1)) (nth rs k)):=by
 unfold raiseB;rw [beq_toListBytes,alerted_list,h]; rfl
theorem raiseB_other {rs:List BA} {k:Nat} (h:¬ (nth rs k).toList=[65,76,69,82,84,69,68]):raiseB rs k=(isSymbolB (nth rs k)&&((k==0)||strLt (nth rs (k-1)) (nth rs k))):=by
 unfold raiseB;rw [beq_toListBytes,alerted_list,beq_eq_false_iff_ne.2 h]; rfl
theorem signed190 (a:Option Addr) (n c:Nat) (hn:n*8<=140737488351232) (aa:Option Addr) (al ac:Nat) (ra:Option Addr) (rl rc:Nat) (s:Sig) (w:World)
  (hia:Ints w (.slice aa al ac) s.args) (hsr:Strs w (.slice ra rl rc) s.raises) :
  Calls Tryz.prog 190 #[.agg #[.slice a n c],.agg #[.slice aa al ac,.int .i64 s.result,.slice ra rl rc]] w fun e w'=>e=.returned (.bool (signedB n s))/\Ext w w':=by
 have hb1:=(SlW.bound hia).2;have hb2:=(SlW.bound hsr).2;obtain rfl:=SlW.len hia;obtain rfl:=SlW.len hsr;have hcf:=fun w1 (hg:w1.cell? ⟨w.heap.size,0,none⟩=some (.slice a n c)) (hi:Ints w1 (.slice aa s.args.length ac) s.args) =>
  containsFunc52_p 201 enters201 #[.pointer (some ⟨w.heap.size,0,none⟩)] aa s.args.length ac (by omega) (fun k _=>.int .i64 (nth s.args k)) w1 (fun k=>!hasI n (nth s.args k))
   (fun w2 hE i hi'=>by obtain ⟨b,off,ha,_,hc,_⟩:=Ints.at (Ints.mono hE hi) hi'; exact ⟨b,off,ha,hc⟩)
   (fun k w2 hk hE=>signed201 _ a n c hn _ w2 (hE.cell hg))
 have Hcf:=dh hcf; clear hcf;have hc52:=any_range s.args (fun i=>!hasI n i)
 go_enter Tryz.func190,Tryz.ntmps190
 go_upto_region 1 with (fail);obtain ⟨W,hW⟩:∃ W:World,W=((w.alloc (.cells #[.slice a n c] 118)).alloc (.cells #[.slice aa s.args.length ac,.int .i64 s.result,.slice ra s.raises.length rc] 86)):=⟨_,rfl⟩;have hEW:Ext w W:=by rw [hW]; exact by (repeat (first | exact Ext.refl _ | (refine Ext.trans ?_ (Hid.out (by assumption))) | (refine Ext.trans ?_ (Ext.alloc _ _)) | (refine Ext.trans ?_ (Ext.drew _)) | (refine below_drewN ?_ _)))
 have HEW:=dh hEW;have hg:W.cell? ⟨w.heap.size,0,none⟩=some (.slice a n c):=by rw [hW]; exact (Ext.alloc _ _).cell (cell_new1 _ _ _)
 have hs0:W.cell? ⟨w.heap.size+1,0,none⟩=some (.slice aa s.args.length ac):=by rw [hW]; simp
 have hs1:W.cell? ⟨w.heap.size+1,1,none⟩=some (.int .i64 s.result):=by rw [hW]; simp
 have hs2:W.cell? ⟨w.heap.size+1,2,none⟩=some (.slice ra s.raises.length rc):=by rw [hW]; simp
 rw [<- hW];clear hW;go_cut [5] (fun v wx=>v=.bool (decide (s.args.length<=6)&&decide (s.raises.length<=6)&&(s.result==-1||hasI n s.result)&&s.args.all (hasI n))/\Hid (Ext W wx))
 case first =>
  have hia1:=Ints.mono hEW hia;clear hEW;have hall:(!(List.range s.args.length).any fun k=>!hasI n (nth s.args k))=s.args.all (hasI n):=by
   rw [hc52,List.not_any_eq_all_not]; simp
  have Hall:=dh hall; clear hall hc52;by_cases h6:s.args.length<=6
  ·by_cases h7:s.raises.length<=6
   ·by_cases h8:s.result=-1
    ·have Hv:=dh (show (decide (s.args.length<=6)&&decide (s.raises.length<=6)&&(s.result==-1||hasI n s.result)&&s.args.all (hasI n))=s.args.all (hasI n) by
      rw [decide_eq_true h6,decide_eq_true h7,beq_iff_eq.2 h8]; simp)
     have h8b:(s.result==-1)=true:=beq_iff_eq.2 h8;clear h8;go_wp2_with fail;refine (Hcf.out _ hg hia1).mono ?_;rintro e w2 ⟨rfl,hE⟩;have HE:=dh hE; clear hE;go_wp2_with fail;go_meet;exact ⟨by rw [Hv.out,<- Hall.out],HE⟩
    ·have h8b:(s.result==-1)=false:=beq_eq_false_iff_ne.2 h8;cases hh:hasI n s.result
     ·have Hv:=dh (show (decide (s.args.length<=6)&&decide (s.raises.length<=6)&&(s.result==-1||hasI n s.result)&&s.args.all (hasI n))=false by
       rw [hh,h8b]; simp)
      go_wp2_with fail;refine (has99 a n c hn _ _).mono ?_;rintro e w2 ⟨rfl,hE⟩;rw [hh];have HE:=dh hE; clear hE;go_wp2_with fail;go_meet;exact ⟨by rw [Hv.out],HE⟩
     ·have Hv:=dh (show (decide (s.args.length<=6)&&decide (s.raises.length<=6)&&(s.result==-1||hasI n s.result)&&s.args.all (hasI n))=s.args.all (hasI n) by
       rw [decide_eq_true h6,decide_eq_true h7,hh]; simp)
      go_wp2_with fail;refine (has99 a n c hn _ _).mono ?_;rintro e w2 ⟨rfl,hE⟩;rw [hh];have hg2:=hE.cell hg;have hs02:=hE.cell hs0;have hia2:=Ints.mono hE hia1;have HE:=dh hE; clear hE;go_wp2_with fail;refine (Hcf.out _ hg2 hia2).mono ?_;rintro e w3 ⟨rfl,hE⟩;have HE3:=dh hE; clear hE;go_wp2_with fail;go_meet;exact ⟨by rw [Hv.out,<- Hall.out],HE.out.trans HE3.out⟩
   ·have Hv:=dh (show (decide (s.args.length<=6)&&decide (s.raises.length<=6)&&(s.result==-1||hasI n s.result)&&s.args.all (hasI n))=false by
     rw [decide_eq_false h7]; simp)
    go_wp2_with fail;go_meet;exact ⟨by rw [Hv.out],Ext.refl _⟩
  ·have Hv:=dh (show (decide (s.args.length<=6)&&decide (s.raises.length<=6)&&(s.result==-1||hasI n s.result)&&s.args.all (hasI n))=false by
    rw [decide_eq_false h6]; simp)
   go_wp2_with fail;go_meet;exact ⟨by rw [Hv.out],Ext.refl _⟩
 case rest =>
  obtain ⟨rfl,hEx⟩:=hcut;have hsr2:=Strs.mono (hEW.trans hEx.out) hsr;have hs22:=hEx.out.cell hs2;have HEx:=dh (hEW.trans hEx.out);clear hEW hs2 hg hs0 hs1 hc52;have hsg:signedB n s=((decide (s.args.length<=6)&&decide (s.raises.length<=6)&&(s.result==-1||hasI n s.result)&&s.args.all (hasI n))&&(List.range s.raises.length).all (raiseB s.raises)):=rfl;generalize (decide (s.args.length<=6)&&decide (s.raises.length<=6)&&(s.result==-1||hasI n s.result)&&s.args.all (hasI n))=ok0 at *;have Hsg:=dh hsg; clear hsg;go_wp2_with fail;go_loopw [5,6,7,39] (fun v _ _ i wr=>∃ (k:Nat) (b:Bool),k<=s.raises.length/\i=.int .i64 k/\v=.bool b/\Hid (b=(ok0&&(List.range k).all (raiseB s.raises))/\Ext w wr/\wr.cell? ⟨w.heap.size+1,2,none⟩=some (.slice ra s.raises.length rc))) (fun _ _ _ i _=>s.raises.length-(intOf i).toNat)
  case atStart=>exact ⟨0,ok0,Nat.zero_le _,rfl,rfl,by simp,HEx.out,hs22⟩
  case round =>
   obtain ⟨k,bk,hk,rfl,rfl,H⟩:=hrel;obtain ⟨hbk,hE,hcell⟩:=H.out;clear H;have HE0:=dh hE;have Hbk:=dh hbk; clear hbk;by_cases hlt:k<s.raises.length
   ·obtain ⟨b,off,rfl,hb,hc0,hr0⟩:=Strs.at (Strs.mono hE hsr) hlt;have hpre:0<k->wr.cell? ⟨b,off+(k-1),none⟩=some (.string (nth s.raises (k-1))):=fun h=>by
     obtain ⟨b',off',e,_,hc,_⟩:=Strs.at (Strs.mono hE hsr) (show k-1<s.raises.length by omega);cases e; exact hc
    have hrs:(List.range (k+1)).all (raiseB s.raises)=((List.range k).all (raiseB s.raises)&&raiseB s.raises k):=raises_snoc _ _;have Hrs:=dh hrs; clear hrs;clear hE hsr2;cases bk
    ·have Hr:=dh (rfl:raiseB s.raises k=raiseB s.raises k);clear hpre;go_wp2_with fail;go_roundw
     case rel=>exact ⟨k+1,_,by omega,by go_num,rfl,by rw [Hrs.out,<- Bool.and_assoc,<- Hbk.out]; rfl,HE0.out,hcell⟩
     case measure=>simp [intOf]; omega
    ·by_cases hal:(nth s.raises k).toList=[65,76,69,82,84,69,68]
     ·by_cases hk0:k=0
      ·have hk1:((k:Int)==0)=true:=by rw [beq_iff_eq]; omega
       have Hr:=dh (show raiseB s.raises k=true by rw [raiseB_alert hal,beq_iff_eq.2 hk0]; rfl);have halb:((nth s.raises k).toList==[65,76,69,82,84,69,68])=true:=beq_iff_eq.2 hal;clear hpre hk0 hal;go_wp2_with fail;go_roundw
       case rel=>exact ⟨k+1,_,by omega,by go_num,rfl,by rw [Hrs.out,<- Bool.and_assoc,<- Hbk.out,Hr.out]; rfl,HE0.out,hcell⟩
       case measure=>simp [intOf]; omega
      ·have hk1:((k:Int)==0)=false:=by rw [beq_eq_false_iff_ne]; omega
       have hk2:1<=k:=by omega
       have hc1:=hpre hk2;have Hr:=dh (show raiseB s.raises k=strLt (nth s.raises (k-1)) (nth s.raises k) by rw [raiseB_alert hal,beq_eq_false_iff_ne.2 hk0]; rfl);have halb:((nth s.raises k).toList==[65,76,69,82,84,69,68])=true:=beq_iff_eq.2 hal;clear hpre hk0 hal;go_wp2_with fail;go_roundw
       case rel=>exact ⟨k+1,_,by omega,by go_num,rfl,by rw [Hrs.out,<- Bool.and_assoc,<- Hbk.out,Hr.out]; rfl,HE0.out,hcell⟩
       case measure=>simp [intOf]; omega
     ·have Hr0:=raiseB_other hal;have halb:((nth s.raises k).toList==[65,76,69,82,84,69,68])=false:=beq_eq_false_iff_ne.2 hal;clear hal;cases hsy:isSymbolB (nth s.raises k)
      ·have Hr:=dh (show raiseB s.raises k=false by rw [Hr0,hsy]; rfl);clear Hr0 hpre;go_wp2_with fail;refine (isSymbol86 _ hr0 _).mono ?_;rintro e w2 ⟨rfl,hE⟩;rw [hsy];have hcell2:=hE.cell hcell;have HE2:=dh (HE0.out.trans hE); clear hE;go_wp2_with fail;go_roundw
       case rel=>exact ⟨k+1,_,by omega,by go_num,rfl,by rw [Hrs.out,<- Bool.and_assoc,<- Hbk.out,Hr.out]; rfl,HE2.out,hcell2⟩
       case measure=>simp [intOf]; omega
      ·by_cases hk0:k=0
       ·have hk1:((k:Int)==0)=true:=by rw [beq_iff_eq]; omega
        have Hr:=dh (show raiseB s.raises k=true by rw [Hr0,hsy,beq_iff_eq.2 hk0]; rfl);clear Hr0 hpre hk0;go_wp2_with fail;refine (isSymbol86 _ hr0 _).mono ?_;rintro e w2 ⟨rfl,hE⟩;rw [hsy];have hcell2:=hE.cell hcell;have HE2:=dh (HE0.out.trans hE); clear hE;go_wp2_with fail;go_roundw
        case rel=>exact ⟨k+1,_,by omega,by go_num,rfl,by rw [Hrs.out,<- Bool.and_assoc,<- Hbk.out,Hr.out]; rfl,HE2.out,hcell2⟩
        case measure=>simp [intOf]; omega
       ·have hk1:((k:Int)==0)=false:=by rw [beq_eq_false_iff_ne]; omega
        have hk2:1<=k:=by omega
        have hc1:=hpre hk2;have Hr:=dh (show raiseB s.raises k=strLt (nth s.raises (k-1)) (nth s.raises k) by rw [Hr0,hsy,beq_eq_false_iff_ne.2 hk0]; rfl);clear Hr0 hpre hk0;go_wp2_with fail;refine (isSymbol86 _ hr0 _).mono ?_;rintro e w2 ⟨rfl,hE⟩;rw [hsy];have hcell2:=hE.cell hcell;have hc2:=hE.cell hc1;have HE2:=dh (HE0.out.trans hE); clear hE;go_wp2_with fail;go_roundw
        case rel=>exact ⟨k+1,_,by omega,by go_num,rfl,by rw [Hrs.out,<- Bool.and_assoc,<- Hbk.out,Hr.out]; rfl,HE2.out,hcell2⟩
        case measure=>simp [intOf]; omega
   ·have:k=s.raises.length:=by omega
    subst this;clear hE hsr2;go_wp2_with fail;go_ret;exact ⟨ret_bool (by rw [Hsg.out,<- Hbk.out]),HE0.out⟩
end
section
open Go.RowKit Go.Proofs
def methB (n:Nat) (m:Meth):Bool:=signedB n m.sig&&(m.proc.size==0||isSymbolB m.proc)
theorem empty_iff (s:BA):s.toList.isEmpty=(s.size==0):=by
 rw [ByteArray.toList_eq];cases s with | mk d=>cases d with | mk l=>cases l <;> rfl
theorem size_zero {s:BA} (h:s.toList=[]):(s.size==0)=true:=by rw [<- empty_iff,h]; rfl
theorem size_pos {s:BA} (h:¬ s.toList=[]):(s.size==0)=false:=by rw [<- empty_iff,List.isEmpty_eq_false_iff]; exact h
theorem meth189 (bg:Nat) (a:Option Addr) (n c:Nat) (hn:n*8<=140737488351232) (m:Meth) (aa:Option Addr) (al ac:Nat) (ra:Option Addr) (rl rc:Nat) (w:World)
  (hg:w.cell? ⟨bg,0,none⟩=some (.slice a n c)) (hp:m.proc.size<=140737488351232)
  (hia:Ints w (.slice aa al ac) m.sig.args) (hsr:Strs w (.slice ra rl rc) m.sig.raises) :
  Calls Tryz.prog 189 #[.agg #[.string m.name,.slice aa al ac,.int .i64 m.sig.result,.slice ra rl rc,.string m.proc],.pointer (some ⟨bg,0,none⟩)] w fun e w'=>e=.returned (.bool (!methB n m))/\Ext w w':=by
 have hl:=cell_lt hg;have hsg:=dh (signed190 a n c hn aa al ac ra rl rc m.sig _ (Ints.mono (Ext.alloc w (.cells #[.string m.name,.slice aa al ac,.int .i64 m.sig.result,.slice ra rl rc,.string m.proc] 88)) hia) (Strs.mono (Ext.alloc _ _) hsr))
 go_enter Tryz.func189,Tryz.ntmps189
 go_wp2_with fail;refine hsg.out.mono ?_;rintro e w2 ⟨rfl,hE⟩;have h4:=hE.cell (cell_new w #[.string m.name,.slice aa al ac,.int .i64 m.sig.result,.slice ra rl rc,.string m.proc] 88 4 _ rfl);have HE:=dh hE; clear hE;go_wp2_with (go_at_call 86; refine (isSymbol86 _ hp _).mono ?_; rintro e wN ⟨rfl,hE⟩; have HE:=dh hE; clear hE)
 ·go_ret;exact ⟨ret_bool (by rw [methB,‹signedB n m.sig=true›,size_zero ‹_›]; rfl),by (repeat (first | exact Ext.refl _ | (refine Ext.trans ?_ (Hid.out (by assumption))) | (refine Ext.trans ?_ (Ext.alloc _ _)) | (refine Ext.trans ?_ (Ext.drew _)) | (refine below_drewN ?_ _)))⟩
 ·go_ret;exact ⟨ret_bool (by rw [methB,‹signedB n m.sig=true›,empty_iff,size_pos ‹_›]; rfl),by (repeat (first | exact Ext.refl _ | (refine Ext.trans ?_ (Hid.out (by assumption))) | (refine Ext.trans ?_ (Ext.alloc _ _)) | (refine Ext.trans ?_ (Ext.drew _)) | (refine below_drewN ?_ _)))⟩
 ·go_ret;exact ⟨ret_bool (by rw [methB,(by simpa using ‹¬signedB n m.sig=true›:signedB n m.sig=false)]; rfl),by (repeat (first | exact Ext.refl _ | (refine Ext.trans ?_ (Hid.out (by assumption))) | (refine Ext.trans ?_ (Ext.alloc _ _)) | (refine Ext.trans ?_ (Ext.drew _)) | (refine below_drewN ?_ _)))⟩
theorem names_eq {α:Type} [Inhabited α] (xs:List α) (f:α->BA):(List.range xs.length).map (fun k=>Value.string (f (nth xs k)))=(xs.map f).map Value.string:=by
 conv=>rhs; rw [<- range_map_nth xs]
 simp
theorem enters174:Enters Tryz.prog 174:=enters_of Tryz.func174 (by kernel_rfl) rfl
theorem enters175:Enters Tryz.prog 175:=enters_of Tryz.func175 (by kernel_rfl) rfl
theorem name174 (p:Part) (w:World):Calls Tryz.prog 174 #[.agg #[.string p.name,.int .i64 p.type]] w fun e w'=>e=.returned (.string p.name)/\Ext w w':=by
 go_enter Tryz.func174,Tryz.ntmps174
 go_wp2;go_ret;exact ⟨rfl,by (repeat (first | exact Ext.refl _ | (refine Ext.trans ?_ (Hid.out (by assumption))) | (refine Ext.trans ?_ (Ext.alloc _ _)) | (refine Ext.trans ?_ (Ext.drew _)) | (refine below_drewN ?_ _)))⟩
theorem name175 (p:Part) (w:World):Calls Tryz.prog 175 #[.agg #[.string p.name,.int .i64 p.type]] w fun e w'=>e=.returned (.string p.name)/\Ext w w':=by
 go_enter Tryz.func175,Tryz.ntmps175
 go_wp2;go_ret;exact ⟨rfl,by (repeat (first | exact Ext.refl _ | (refine Ext.trans ?_ (Hid.out (by assumption))) | (refine Ext.trans ?_ (Ext.alloc _ _)) | (refine Ext.trans ?_ (Ext.drew _)) | (refine below_drewN ?_ _)))⟩
def NamesPost {α:Type} (xs:List α) (f:α->BA) (w:World) (e:Ending) (w':World):Prop :=
 ∃ va vc,e=.returned (.slice va xs.length vc)/\Strs w' (.slice va xs.length vc) (xs.map f)/\Ext w w'
theorem names_post {α:Type} [Inhabited α] {xs:List α} {f:α->BA} {w w':World} {v:Value} (h:w'.ownsRow w.heap.size 9 1 v xs.length ((List.range xs.length).map fun k=>Value.string (f (nth xs k)))) (hE:Ext w w')
  (hn:xs.length*8<=maxBytes) (hb:∀ x,x∈xs->(f x).size<=maxBytes):NamesPost xs f w (.returned v) w':=by
 rw [names_eq] at h;have hs:=owns_strs h hn (fun s hs=>by
  obtain ⟨x,hx,rfl⟩:=List.mem_map.1 hs;exact hb x hx)
 have hs':=hs;obtain ⟨va,vc,hv,_⟩:=hs;subst hv;rw [List.length_map] at hs' ⊢;exact ⟨va,vc,rfl,hs',hE⟩
theorem mem_nth {α:Type} [Inhabited α] {xs:List α} {x:α} (h:x∈xs):∃ i,i<xs.length/\nth xs i=x:=by
 obtain ⟨i,hi,rfl⟩:=List.getElem_of_mem h;exact ⟨i,hi,nth_eq hi⟩
theorem names184 (ma:Option Addr) (ml mc:Nat) (xs:List Meth) (w:World) (hm:Meths w (.slice ma ml mc) xs) :
  Calls Tryz.prog 184 #[.slice ma ml mc,.func (.func 185) #[] #[]] w (NamesPost xs (·.name) w):=by
 have hb:=(SlW.bound hm).2;obtain rfl:=SlW.len hm;refine (turned184 185 enters185 #[] ma _ mc xs (fun k=>(nth xs k).name) w hm (fun k w1 aa al ac ra rl rc hk hE h1 h2=>name185 _ _ _ _ _ _ _ _ _ w1)).mono ?_;rintro e w2 ⟨v,rfl,hown,hE⟩;refine names_post hown hE (by unfold maxBytes; omega) (fun x hx=>?_);obtain ⟨i,hi,rfl⟩:=mem_nth hx;obtain ⟨b,off,aa,al,ac,ra,rl,rc,_,_,_,_,_,_,_,_,_,_,_,h,_⟩:=Meths.at hm hi;exact h
theorem names186 (ma:Option Addr) (ml mc:Nat) (xs:List Over) (w:World) (hm:Overs w (.slice ma ml mc) xs) :
  Calls Tryz.prog 186 #[.slice ma ml mc,.func (.func 187) #[] #[]] w (NamesPost xs (·.name) w):=by
 have hb:=(SlW.bound hm).2;obtain rfl:=SlW.len hm;refine (turned186 187 enters187 #[] ma _ mc xs (fun k=>(nth xs k).name) w hm (fun k w1 hk hE=>name187 _ w1)).mono ?_;rintro e w2 ⟨v,rfl,hown,hE⟩;refine names_post hown hE (by unfold maxBytes; omega) (fun x hx=>?_);obtain ⟨i,hi,rfl⟩:=mem_nth hx;obtain ⟨b,off,_,_,_,_,h,_⟩:=Overs.at hm hi;exact h
theorem names173 (F:Nat) (hF:Enters Tryz.prog F) (ma:Option Addr) (ml mc:Nat) (xs:List Part) (w:World) (hm:Parts w (.slice ma ml mc) xs)
  (hf:∀ (p:Part) (w:World),Calls Tryz.prog F #[.agg #[.string p.name,.int .i64 p.type]] w fun e w'=>e=.returned (.string p.name)/\Ext w w') :
  Calls Tryz.prog 173 #[.slice ma ml mc,.func (.func F) #[] #[]] w (NamesPost xs (·.name) w):=by
 have hb:=(SlW.bound hm).2;obtain rfl:=SlW.len hm;refine (turned173 F hF #[] ma _ mc xs (fun k=>(nth xs k).name) w hm (fun k w1 hk hE=>hf _ w1)).mono ?_;rintro e w2 ⟨v,rfl,hown,hE⟩;refine names_post hown hE (by unfold maxBytes; omega) (fun x hx=>?_);obtain ⟨i,hi,rfl⟩:=mem_nth hx;obtain ⟨b,off,_,_,_,_,h,_⟩:=Parts.at hm hi;exact h
theorem u8s_new (w:World) (l:List Int) (hl:l.length<=100):U8s (w.alloc (.cells (l.map (Value.int .u8)).toArray 5)) (.slice (some ⟨w.heap.size,0,none⟩) l.length l.length) l:=by
 refine ⟨some ⟨w.heap.size,0,none⟩,l.length,rfl,Nat.le_refl _,by unfold maxBytes; omega,fun i x hi=>⟨w.heap.size,0,[.int .u8 x],rfl,rfl,rfl,fun j u hj=>?_⟩⟩
 match j,hj with
 | 0,hj =>
  cases hj;rw [Nat.zero_add,Nat.mul_one,Nat.add_zero];exact cell_new w _ 5 i _ (by simp [hi])
theorem contains182_p (F:FuncId) (hF:Enters Tryz.prog F) (cap:Array Value) (a:Option Addr) (n c:Nat) (xs:List Part) (w:World) (p:Part->Bool) (hx:Parts w (.slice a n c) xs)
  (hf:∀ k w1,k<n->Ext w w1->Calls Tryz.prog F (#[.agg #[.string (nth xs k).name,.int .i64 (nth xs k).type]]++cap) w1 (fun e w2=>e=.returned (.bool (p (nth xs k)))/\Ext w1 w2)) :
  Calls Tryz.prog 182 #[.slice a n c,.func (.func F) #[] cap] w fun e w2=>e=.returned (.bool (xs.any p))/\Ext w w2:=by
 have hb:=(SlW.bound hx).2;obtain rfl:=SlW.len hx;rw [<- any_range xs p];exact containsFunc182_p F hF cap a _ c (by omega) (fun k j=>if j=0 then .string (nth xs k).name else .int .i64 (nth xs k).type) w _ (fun w1 hE i hi=>by
  obtain ⟨b,off,ha,_,hc0,hc1,_⟩:=Parts.at (Parts.mono hE hx) hi;exact ⟨b,off,ha,hc0,hc1⟩) hf
theorem contains191_p (F:FuncId) (hF:Enters Tryz.prog F) (cap:Array Value) (a:Option Addr) (n c:Nat) (xs:List Over) (w:World) (p:Over->Bool) (hx:Overs w (.slice a n c) xs)
  (hf:∀ k w1,k<n->Ext w w1->Calls Tryz.prog F (#[.agg #[.string (nth xs k).name,.string (nth xs k).proc]]++cap) w1 (fun e w2=>e=.returned (.bool (p (nth xs k)))/\Ext w1 w2)) :
  Calls Tryz.prog 191 #[.slice a n c,.func (.func F) #[] cap] w fun e w2=>e=.returned (.bool (xs.any p))/\Ext w w2:=by
 have hb:=(SlW.bound hx).2;obtain rfl:=SlW.len hx;rw [<- any_range xs p];exact containsFunc191_p F hF cap a _ c (by omega) (fun k j=>if j=0 then .string (nth xs k).name else .string (nth xs k).proc) w _ (fun w1 hE i hi=>by
  obtain ⟨b,off,ha,_,hc0,hc1,_⟩:=Overs.at (Overs.mono hE hx) hi;exact ⟨b,off,ha,hc0,hc1⟩) hf
theorem contains188_m (F:FuncId) (hF:Enters Tryz.prog F) (cap:Array Value) (a:Option Addr) (n c:Nat) (xs:List Meth) (w:World) (p:Meth->Bool) (hx:Meths w (.slice a n c) xs)
  (hf:∀ k w1 (aa:Option Addr) (al ac:Nat) (ra:Option Addr) (rl rc:Nat),k<n->Ext w w1->Ints w1 (.slice aa al ac) (nth xs k).sig.args->Strs w1 (.slice ra rl rc) (nth xs k).sig.raises ->
   Calls Tryz.prog F (#[.agg #[.string (nth xs k).name,.slice aa al ac,.int .i64 (nth xs k).sig.result,.slice ra rl rc,.string (nth xs k).proc]]++cap) w1 (fun e w2=>e=.returned (.bool (p (nth xs k)))/\Ext w1 w2)) :
  Calls Tryz.prog 188 #[.slice a n c,.func (.func F) #[] cap] w fun e w2=>e=.returned (.bool (xs.any p))/\Ext w w2:=by
 have hb:=(SlW.bound hx).2;obtain rfl:=SlW.len hx;rw [<- any_range xs p];have key:∀ k,k<xs.length->∃ (aa:Option Addr) (al ac:Nat) (ra:Option Addr) (rl rc:Nat),(∀ j v,(#[Value.string (nth xs k).name,.slice aa al ac,.int .i64 (nth xs k).sig.result,.slice ra rl rc,.string (nth xs k).proc])[j]? = some v ->
   ((a.bind fun ad=>w.cell? ⟨ad.block,ad.off+k*5+j,none⟩).getD undef)=v)/\Ints w (.slice aa al ac) (nth xs k).sig.args/\Strs w (.slice ra rl rc) (nth xs k).sig.raises:=by
  intro k hk;obtain ⟨b,off,aa,al,ac,ra,rl,rc,rfl,_,hc0,hc1,hc2,hc3,hc4,h1,h2,_⟩:=Meths.at hx hk;refine ⟨aa,al,ac,ra,rl,rc,fun j v hj=>?_,h1,h2⟩
  match j,hj with
  | 0,hj=>cases hj; simp [hc0]
  | 1,hj=>cases hj; simp [hc1]
  | 2,hj=>cases hj; simp [hc2]
  | 3,hj=>cases hj; simp [hc3]
  | 4,hj=>cases hj; simp [hc4]
  | j+5,hj=>simp at hj
 refine containsFunc188_p F hF cap a _ c (by omega) (fun k j=>(a.bind fun ad=>w.cell? ⟨ad.block,ad.off+k*5+j,none⟩).getD undef) w _ (fun w1 hE i hi=>?_) (fun k w1 hk hE=>?_)
 ·obtain ⟨aa,al,ac,ra,rl,rc,hv,_,_⟩:=key i hi;obtain ⟨b,off,aa',al',ac',ra',rl',rc',ha,_,hc0,hc1,hc2,hc3,hc4,_⟩:=Meths.at hx hi;subst ha;refine ⟨b,off,rfl,?_,?_,?_,?_,?_⟩
  ·rw [hE.cell hc0]; simp [hc0]
  ·rw [hE.cell hc1]; simp [hc1]
  ·rw [hE.cell hc2]; simp [hc2]
  ·rw [hE.cell hc3]; simp [hc3]
  ·rw [hE.cell hc4]; simp [hc4]
 ·obtain ⟨aa,al,ac,ra,rl,rc,hv,h1,h2⟩:=key k hk;have:=hf k w1 aa al ac ra rl rc hk hE (Ints.mono hE h1) (Strs.mono hE h2);rw [show #[Value.agg #[(a.bind fun ad=>w.cell? ⟨ad.block,ad.off+k*5+0,none⟩).getD undef,(a.bind fun ad=>w.cell? ⟨ad.block,ad.off+k*5+1,none⟩).getD undef,(a.bind fun ad=>w.cell? ⟨ad.block,ad.off+k*5+2,none⟩).getD undef,
   (a.bind fun ad=>w.cell? ⟨ad.block,ad.off+k*5+3,none⟩).getD undef,(a.bind fun ad=>w.cell? ⟨ad.block,ad.off+k*5+4,none⟩).getD undef]] =
   #[Value.agg #[.string (nth xs k).name,.slice aa al ac,.int .i64 (nth xs k).sig.result,.slice ra rl rc,.string (nth xs k).proc]] by
    rw [hv 0 _ rfl,hv 1 _ rfl,hv 2 _ rfl,hv 3 _ rfl,hv 4 _ rfl]; rfl]
  exact this
theorem object176 (a:Option Addr) (n c:Nat) (g:List Ty) (t:Ty) (pa:Option Addr) (pl pc:Nat) (ma:Option Addr) (ml mc:Nat) (oa:Option Addr) (ol oc:Nat) (w:World)
  (hg:Graph w (.slice a n c) g) (hm:Meths w (.slice ma ml mc) t.methods) (ho:Overs w (.slice oa ol oc) t.overs) :
  Calls Tryz.prog 176 #[.agg #[.slice a n c],.agg (tyCells t (.slice pa pl pc) (.slice ma ml mc) (.slice oa ol oc)).toArray] w fun e w'=>e=.returned (.bool (objectB g t))/\Ext w w':=by
 unfold tyCells;have hb:=(SlW.bound hg).2;obtain rfl:=SlW.len hg;have hspec:objectB g t=(!(t.methods.any fun m=>!methB g.length m)&&!(t.overs.any fun o=>!isSymbolB o.proc)&&differentB (t.methods.map (·.name)) 8&&differentB (t.overs.map (·.name)) 8&&overB g t.super [12,6,7,8,13]):=by
  unfold objectB;rw [List.not_any_eq_all_not,List.not_any_eq_all_not];simp only [Bool.not_not]
  rfl
 have Hspec:=dh hspec; clear hspec
 go_enter Tryz.func176,Tryz.ntmps176
 go_upto_region 1 with (fail);obtain ⟨W,hW⟩:∃ W:World,W=(w.alloc (.cells #[.slice a g.length c] 118)).alloc (.cells #[.int .u8 t.kind,.int .i64 t.low,.int .i64 t.high,.bool t.branded,.string t.brand,.string t.opq,.int .i64 t.super,.slice pa pl pc,.slice ma ml mc,.slice oa ol oc] 50):=⟨_,rfl⟩;have hEW:Ext w W:=by rw [hW]; exact by (repeat (first | exact Ext.refl _ | (refine Ext.trans ?_ (Hid.out (by assumption))) | (refine Ext.trans ?_ (Ext.alloc _ _)) | (refine Ext.trans ?_ (Ext.drew _)) | (refine below_drewN ?_ _)))
 have hbx:W.cell? ⟨w.heap.size,0,none⟩=some (.slice a g.length c):=by rw [hW]; simp
 have h6:W.cell? ⟨w.heap.size+1,6,none⟩=some (.int .i64 t.super):=by rw [hW]; simp
 have h8:W.cell? ⟨w.heap.size+1,8,none⟩=some (.slice ma ml mc):=by rw [hW]; simp
 have h9:W.cell? ⟨w.heap.size+1,9,none⟩=some (.slice oa ol oc):=by rw [hW]; simp
 rw [<- hW];clear hW;have hg:=Graph.mono hEW hg;have hm:=Meths.mono hEW hm;have ho:=Overs.mono hEW ho;have HEW:=dh hEW; clear hEW;go_wp2_with fail;refine (names184 _ _ _ _ _ hm).mono ?_;rintro e w1 ⟨va,vc,rfl,hs1,hE⟩;have hg:=Graph.mono hE hg;have hm:=Meths.mono hE hm;have ho:=Overs.mono hE ho;have hbx:=hE.cell hbx;have h6:=hE.cell h6;have h8:=hE.cell h8;have h9:=hE.cell h9;have HE1:=dh hE; clear hE;go_wp2_with fail;refine (names186 _ _ _ _ _ ho).mono ?_;rintro e w2 ⟨ua,uc,rfl,hs2,hE⟩;have hg:=Graph.mono hE hg;have hm:=Meths.mono hE hm;have ho:=Overs.mono hE ho;have hs1:=Strs.mono hE hs1;have hbx:=hE.cell hbx;have h6:=hE.cell h6;have h8:=hE.cell h8;have h9:=hE.cell h9;have HE2:=dh hE; clear hE;go_wp2_with fail;refine (contains188_m 189 enters189 #[.pointer (some ⟨w.heap.size,0,none⟩)] _ _ _ _ w2 (fun m=>!methB g.length m) hm
  (fun k w3 aa al ac ra rl rc hk hE h1 h2=>meth189 _ a _ c (by omega) (nth t.methods k) aa al ac ra rl rc w3 (hE.cell hbx) ?_ h1 h2)).mono ?_
 ·obtain ⟨b,off,aa,al,ac,ra,rl,rc,_,_,_,_,_,_,_,_,_,_,_,_,h⟩:=Meths.at hm hk;exact h
 rintro e w3 ⟨rfl,hE⟩;have hg:=Graph.mono hE hg;have ho:=Overs.mono hE ho;have hs1:=Strs.mono hE hs1;have hs2:=Strs.mono hE hs2;have hbx:=hE.cell hbx;have h6:=hE.cell h6;have h9:=hE.cell h9;have HE3:=dh hE; clear hE;generalize (t.methods.any fun m=>!methB g.length m)=b1 at *;cases b1
 ·go_wp2_with fail;refine (contains191_p 192 enters192 #[] _ _ _ _ w3 (fun o=>!isSymbolB o.proc) ho (fun k w4 hk hE=>proc192 _ ?_ w4)).mono ?_
  ·obtain ⟨b,off,_,_,_,_,_,h⟩:=Overs.at ho hk;exact h
  rintro e w4 ⟨rfl,hE⟩;have hg:=Graph.mono hE hg;have hs1:=Strs.mono hE hs1;have hs2:=Strs.mono hE hs2;have hbx:=hE.cell hbx;have h6:=hE.cell h6;have HE4:=dh hE; clear hE;generalize (t.overs.any fun o=>!isSymbolB o.proc)=b2 at *;cases b2
  ·go_wp2_with fail;refine (different172 _ _ _ _ 8 _ hs1).mono ?_;rintro e w5 ⟨rfl,hE⟩;have hg:=Graph.mono hE hg;have hs2:=Strs.mono hE hs2;have hbx:=hE.cell hbx;have h6:=hE.cell h6;have HE5:=dh hE; clear hE;cases hd1:differentB (t.methods.map (·.name)) 8
   ·go_wp2_with fail;go_ret;exact ⟨ret_bool (by rw [Hspec.out,hd1]; rfl),by (repeat (first | exact Ext.refl _ | (refine Ext.trans ?_ (Hid.out (by assumption))) | (refine Ext.trans ?_ (Ext.alloc _ _)) | (refine Ext.trans ?_ (Ext.drew _)) | (refine below_drewN ?_ _)))⟩
   ·go_wp2_with fail;refine (different172 _ _ _ _ 8 _ hs2).mono ?_;rintro e w6 ⟨rfl,hE⟩;have hg:=Graph.mono hE hg;have hbx:=hE.cell hbx;have h6:=hE.cell h6;have HE6:=dh hE; clear hE;cases hd2:differentB (t.overs.map (·.name)) 8
    ·go_wp2_with fail;go_ret;exact ⟨ret_bool (by rw [Hspec.out,hd1,hd2]; rfl),by (repeat (first | exact Ext.refl _ | (refine Ext.trans ?_ (Hid.out (by assumption))) | (refine Ext.trans ?_ (Ext.alloc _ _)) | (refine Ext.trans ?_ (Ext.drew _)) | (refine below_drewN ?_ _)))⟩
    ·go_wp2_with fail;refine (over177 a _ c g _ _ _ [12,6,7,8,13] t.super _ (Graph.mono (Ext.alloc _ _) hg) (u8s_new w6 [12,6,7,8,13] (by decide))).mono ?_;rintro e w7 ⟨rfl,hE⟩;have HE7:=dh hE; clear hE;go_wp2_with fail;go_ret;exact ⟨ret_bool (by rw [Hspec.out,hd1,hd2]; rfl),by (repeat (first | exact Ext.refl _ | (refine Ext.trans ?_ (Hid.out (by assumption))) | (refine Ext.trans ?_ (Ext.alloc _ _)) | (refine Ext.trans ?_ (Ext.drew _)) | (refine below_drewN ?_ _)))⟩
  ·go_wp2_with fail;go_ret;exact ⟨ret_bool (by rw [Hspec.out]; rfl),by (repeat (first | exact Ext.refl _ | (refine Ext.trans ?_ (Hid.out (by assumption))) | (refine Ext.trans ?_ (Ext.alloc _ _)) | (refine Ext.trans ?_ (Ext.drew _)) | (refine below_drewN ?_ _)))⟩
 ·go_wp2_with fail;go_ret;exact ⟨ret_bool (by rw [Hspec.out]; rfl),by (repeat (first | exact Ext.refl _ | (refine Ext.trans ?_ (Hid.out (by assumption))) | (refine Ext.trans ?_ (Ext.alloc _ _)) | (refine Ext.trans ?_ (Ext.drew _)) | (refine below_drewN ?_ _)))⟩
end
end Go.Proofs.YtjffkeoajkhbmaaGreat
