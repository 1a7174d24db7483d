/- The reference's methods and overrides. The reference's rules are the types' own, in plain Lean. Whether a type is as said in itself: the reference's answer. -/
import Derived.Test.YtjffkeoajkhbmaaGreatOW3
import Derived.Test.YtjffkeoajkhbmaaGreatOW25
namespace Go.Proofs.YtjffkeoajkhbmaaGreat
set_option linter.unusedSimpArgs false
set_option linter.unusedVariables false
set_option maxRecDepth 100000
set_option maxHeartbeats 8000000
section
open Go.RowKit Go.Proofs
def methOk (n:Nat) (ms:List Meth) (i:Nat):Bool:=isNameB (nth ms i).name&&((nth ms i).proc.size==0||isSymbolB (nth ms i).proc)&&signedB n (nth ms i).sig&&diffAt (ms.map (·.name)) i
def overOk (os:List Over) (i:Nat):Bool:=isNameB (nth os i).name&&isSymbolB (nth os i).proc&&diffAt (os.map (·.name)) i
def methodsR (n:Nat) (t:Ty):Bool:=((List.range t.methods.length).all (methOk n t.methods))&&((List.range t.overs.length).all (overOk t.overs))&&decide (t.methods.length<=8)&&decide (t.overs.length<=8)
theorem methods159 (ga:Option Addr) (n gc:Nat) (hn:n<=140737488351232) (t:Ty) (pa:Option Addr) (pl pc:Nat) (ma:Option Addr) (ml mc:Nat) (oa:Option Addr) (ol oc:Nat) (w:World) (hm:Meths w (.slice ma ml mc) t.methods) (ho:Overs w (.slice oa ol oc) t.overs) :
  Calls Tryz.prog 159 #[.slice ga n gc,.agg (tyArr t pa pl pc ma ml mc oa ol oc)] w fun e w'=>e=.returned (.bool (methodsR n t))/\Ext w w':=by
 have hb1:=(SlW.bound hm).2;have hb2:=(SlW.bound ho).2;obtain rfl:=SlW.len hm;obtain rfl:=SlW.len ho;have Hm:=dh hm;have Ho:=dh ho;clear hm ho;have HE0:=dh (Ext.alloc w (.cells (tyArr t pa pl pc ma t.methods.length mc oa t.overs.length oc) 50));have HB0:=dh (show (w.alloc (.cells (tyArr t pa pl pc ma t.methods.length mc oa t.overs.length oc) 50)).heap[w.heap.size]? = some (.cells (tyArr t pa pl pc ma t.methods.length mc oa t.overs.length oc) 50 (0,0)) from heap_alloc_new _ _)
 go_enter Tryz.func159,Tryz.ntmps159
 go_wp2_with fail;go_loopw [5] (fun i wr=>∃ k:Nat,k<=t.methods.length/\i=.int .i64 k/\Hid (Ext w wr/\wr.heap[w.heap.size]? = some (.cells (tyArr t pa pl pc ma t.methods.length mc oa t.overs.length oc) 50 (0,0))/\∀ j,j<k->methOk n t.methods j=true)) (fun i _=>t.methods.length-(intOf i).toNat)
 case atStart=>exact ⟨0,Nat.zero_le _,rfl,dh ⟨HE0.out,HB0.out,fun j hj=>absurd hj (by omega)⟩⟩
 case round =>
  clear HE0 HB0;obtain ⟨k,hk,rfl,hH⟩:=hrel;rename World=>W0;obtain ⟨b0,b1,b2,b3,b4,b5,b6,b7,b8,b9⟩:=tyBox_of hH.out.2.1;clear b0 b1 b2 b3 b4 b5 b6 b7;by_cases hkl:k<t.methods.length
  ·obtain ⟨b,off,aa,al,ac,ra,rl,rc,hab,hlt,m0,m1,m2,m3,m4,hia,hsr,hlo,hhi,hs1,hs2⟩:=Meths.at (Meths.mono hH.out.1 Hm.out) hkl;cases hab;have Hia:=dh hia;have Hsr:=dh hsr;clear hia hsr;go_upto_region 5 with (fail);have HW:=dh (Ext.alloc W0 (.cells #[.string (nth t.methods k).name,.slice aa al ac,.int .i64 (nth t.methods k).sig.result,.slice ra rl rc,.string (nth t.methods k).proc] 88));have hbx:(W0.alloc (.cells #[.string (nth t.methods k).name,.slice aa al ac,.int .i64 (nth t.methods k).sig.result,.slice ra rl rc,.string (nth t.methods k).proc] 88)).heap[W0.heap.size]? = some (.cells #[.string (nth t.methods k).name,.slice aa al ac,.int .i64 (nth t.methods k).sig.result,.slice ra rl rc,.string (nth t.methods k).proc] 88 (0,0)):=heap_alloc_new _ _;have n0:=row_cell hbx (j:=0) rfl;have n1:=row_cell hbx (j:=1) rfl;have n2:=row_cell hbx (j:=2) rfl;have n3:=row_cell hbx (j:=3) rfl;have n4:=row_cell hbx (j:=4) rfl;have Hbx:=dh hbx;clear hbx m0 m1 m2 m3 m4;obtain ⟨W1,hW1⟩:∃ W1:World,W1=W0.alloc (.cells #[.string (nth t.methods k).name,.slice aa al ac,.int .i64 (nth t.methods k).sig.result,.slice ra rl rc,.string (nth t.methods k).proc] 88):=⟨_,rfl⟩;rw [<- hW1] at HW Hbx n0 n1 n2 n3 n4 ⊢;clear hW1;obtain ⟨ok,hok⟩:∃ ok,ok=(isNameB (nth t.methods k).name&&((nth t.methods k).proc.size==0||isSymbolB (nth t.methods k).proc)&&signedB n (nth t.methods k).sig):=⟨_,rfl⟩;have Hok:=dh hok;clear hok;go_cut [43] (fun v wx=>v=.bool (!ok)/\Hid (Ext W1 wx))
   case first =>
    cases hnm:isNameB (nth t.methods k).name
    ·have Hk:=dh (show ok=false by rw [Hok.out,hnm]; rfl);go_wp2_with (first | (go_at_call 125; refine (isName125 _ _).mono ?_; rintro e w' ⟨rfl,rfl⟩) | (go_at_call 90; refine (isSymbol90 _ hs2 _).mono ?_; rintro e w' ⟨rfl,rfl⟩));go_meet;exact ⟨by rw [Hk.out]; rfl,dh (Ext.refl _)⟩
    by_cases hem:ByteArray.toList (nth t.methods k).proc=[]
    ·have hemb:(ByteArray.toList (nth t.methods k).proc==[])=true:=beq_iff_eq.2 hem;have Hk:=dh (show ok=signedB n (nth t.methods k).sig by rw [Hok.out,hnm,size_zero hem]; rfl);clear hem;go_wp2_with (first | (go_at_call 125; refine (isName125 _ _).mono ?_; rintro e w' ⟨rfl,rfl⟩) | (go_at_call 90; refine (isSymbol90 _ hs2 _).mono ?_; rintro e w' ⟨rfl,rfl⟩));refine (sig180 ga n gc hn aa al ac ra rl rc (nth t.methods k).sig _ (Ints.mono HW.out Hia.out) (Strs.mono HW.out Hsr.out) hlo hhi).mono ?_;rintro e w3 ⟨rfl,hE⟩;have HE3:=dh hE;clear hE;go_wp2_with fail;go_meet;exact ⟨by rw [Hk.out],HE3⟩
    ·have hemb:(ByteArray.toList (nth t.methods k).proc==[])=false:=beq_eq_false_iff_ne.2 hem;have Hk0:=dh (show ok=(isSymbolB (nth t.methods k).proc&&signedB n (nth t.methods k).sig) by rw [Hok.out,hnm,size_pos hem]; rfl);clear hem;cases hsy:isSymbolB (nth t.methods k).proc
     ·have Hk:=dh (show ok=false by rw [Hk0.out,hsy]; rfl);go_wp2_with (first | (go_at_call 125; refine (isName125 _ _).mono ?_; rintro e w' ⟨rfl,rfl⟩) | (go_at_call 90; refine (isSymbol90 _ hs2 _).mono ?_; rintro e w' ⟨rfl,rfl⟩));go_meet;exact ⟨by rw [Hk.out]; rfl,dh (Ext.refl _)⟩
     ·have Hk:=dh (show ok=signedB n (nth t.methods k).sig by rw [Hk0.out,hsy]; rfl);go_wp2_with (first | (go_at_call 125; refine (isName125 _ _).mono ?_; rintro e w' ⟨rfl,rfl⟩) | (go_at_call 90; refine (isSymbol90 _ hs2 _).mono ?_; rintro e w' ⟨rfl,rfl⟩));refine (sig180 ga n gc hn aa al ac ra rl rc (nth t.methods k).sig _ (Ints.mono HW.out Hia.out) (Strs.mono HW.out Hsr.out) hlo hhi).mono ?_;rintro e w3 ⟨rfl,hE⟩;have HE3:=dh hE;clear hE;go_wp2_with fail;go_meet;exact ⟨by rw [Hk.out],HE3⟩
   case rest =>
    obtain ⟨rfl,hEx⟩:=hcut;have HEx:=dh ((hH.out.1.trans HW.out).trans hEx.out);have HBx:=dh ((hEx.out.block _ (row_lt Hbx.out)).trans Hbx.out);have HTx:=dh (((HW.out.trans hEx.out).block _ (row_lt hH.out.2.1)).trans hH.out.2.1);clear b8 b9 n0 n1 n2 n3 n4;have b8:=(tyBox_of HTx.out).c8;cases ok
    ·have Hf:=dh (show methodsR n t=false by
      unfold methodsR;rw [allR_no hkl (by unfold methOk; rw [<- Hok.out]; rfl)]; rfl)
     go_wp2_with fail;go_ret;exact ⟨ret_bool Hf.out.symm,HEx.out⟩
    have Hd:=dh (show methOk n t.methods k=diffAt (t.methods.map (·.name)) k by unfold methOk; rw [<- Hok.out]; rfl);go_wp2_with fail;go_loopw [7] (fun i wx=>∃ d:Nat,d<=k/\i=.int .i64 d/\Hid (Ext w wx/\wx.heap[w.heap.size]? = some (.cells (tyArr t pa pl pc (some ⟨b,off,none⟩) t.methods.length mc oa t.overs.length oc) 50 (0,0))/\wx.heap[W0.heap.size]? = some (.cells #[.string (nth t.methods k).name,.slice aa al ac,.int .i64 (nth t.methods k).sig.result,.slice ra rl rc,.string (nth t.methods k).proc] 88 (0,0))/\∀ j,j<d->((nth t.methods j).name==(nth t.methods k).name)=false)) (fun i _=>k-(intOf i).toNat)
    case atStart=>exact ⟨0,Nat.zero_le _,rfl,dh ⟨HEx.out,HTx.out,HBx.out,fun j hj=>absurd hj (by omega)⟩⟩
    case round =>
     clear b8;obtain ⟨d,hd,rfl,hJ⟩:=hrel;have b8:=(tyBox_of hJ.out.2.1).c8;have n0:=row_cell hJ.out.2.2.1 (j:=0) rfl;by_cases hdl:d<k
     ·have hdm:d<t.methods.length:=by omega
      have hm2:=Meths.at (Meths.mono hJ.out.1 Hm.out) hdm;obtain ⟨b',off',_,_,_,_,_,_,hab2,_,d0,_,_,_,_,_,_,_,_,_,_⟩:=hm2;cases hab2;cases heq:((nth t.methods d).name==(nth t.methods k).name)
      ·have heq2:(ByteArray.toList (nth t.methods d).name==ByteArray.toList (nth t.methods k).name)=false:=(beq_toListBytes _ _).symm.trans heq;have HJ2:=dh (show ∀ j,j<d+1->((nth t.methods j).name==(nth t.methods k).name)=false by
        intro j hj;by_cases hjd:j=d
        ·rw [hjd]; exact heq
        ·exact hJ.out.2.2.2 j (by omega))
       go_upto_region 10 with (fail);refine Zr 99 ?_;change wpE _ _ _ _ _ _ _ _ (World.drew _);refine Zg 0 ?_;refine Zc 1 b8 ?_;refine Zg 2 ?_;refine Zg 3 ?_;refine Zg 4 ?_;refine Zc 5 d0 ?_;refine Zg 6 ?_;refine Zc 7 n0 ?_;refine Zg 8 ?_;refine Zd ?_;go_wp2_with fail;go_roundw
       case rel=>exact ⟨d+1,by omega,by go_num,dh ⟨hJ.out.1.trans (Ext.drew _),((Ext.drew _).block _ (row_lt hJ.out.2.1)).trans hJ.out.2.1,((Ext.drew _).block _ (row_lt hJ.out.2.2.1)).trans hJ.out.2.2.1,HJ2.out⟩⟩
       case measure=>simp [intOf]; omega
      ·have heq2:(ByteArray.toList (nth t.methods d).name==ByteArray.toList (nth t.methods k).name)=true:=(beq_toListBytes _ _).symm.trans heq;have Hf:=dh (show methodsR n t=false by
        unfold methodsR;rw [allR_no hkl (by
         rw [Hd.out];refine allR_no hdl ?_;rw [nth_map _ hdm,nth_map _ hkl,heq]; rfl)]; rfl)
       go_upto_region 10 with (fail);refine Zr 99 ?_;change wpE _ _ _ _ _ _ _ _ (World.drew _);refine Zg 0 ?_;refine Zc 1 b8 ?_;refine Zg 2 ?_;refine Zg 3 ?_;refine Zg 4 ?_;refine Zc 5 d0 ?_;refine Zg 6 ?_;refine Zc 7 n0 ?_;refine Zg 8 ?_;refine Zd ?_;go_wp2_with fail;go_ret;exact ⟨ret_bool Hf.out.symm,hJ.out.1.trans (Ext.drew _)⟩
     ·have HJ2:=dh (show ∀ j,j<k+1->methOk n t.methods j=true by
       intro j hj;by_cases hjk:j=k
       ·rw [hjk,Hd.out];refine allR_yes (fun i hi=>?_);rw [nth_map _ (show i<t.methods.length by omega),nth_map _ hkl,hJ.out.2.2.2 i (by omega)]; rfl
       ·exact hH.out.2.2 j (by omega))
      go_wp2_with fail;go_roundw
      case rel=>exact ⟨k+1,by omega,by go_num,dh ⟨hJ.out.1,hJ.out.2.1,HJ2.out⟩⟩
      case measure=>simp [intOf]; omega
  ·have Hms:=dh (show methodsR n t=(((List.range t.overs.length).all (overOk t.overs))&&decide (t.methods.length<=8)&&decide (t.overs.length<=8)) by
    unfold methodsR;rw [allR_yes (fun j hj=>hH.out.2.2 j (by omega))]; rfl)
   go_wp2_with fail;go_loopw [8] (fun i wr=>∃ k:Nat,k<=t.overs.length/\i=.int .i64 k/\Hid (Ext w wr/\wr.heap[w.heap.size]? = some (.cells (tyArr t pa pl pc ma t.methods.length mc oa t.overs.length oc) 50 (0,0))/\∀ j,j<k->overOk t.overs j=true)) (fun i _=>t.overs.length-(intOf i).toNat)
   case atStart=>exact ⟨0,Nat.zero_le _,rfl,dh ⟨hH.out.1,hH.out.2.1,fun j hj=>absurd hj (by omega)⟩⟩
   case round =>
    clear b8 b9;clear hkl hk hH;obtain ⟨k,hk,rfl,hH⟩:=hrel;have b8:=(tyBox_of hH.out.2.1).c8;have b9:=(tyBox_of hH.out.2.1).c9;by_cases hkl:k<t.overs.length
    ·obtain ⟨b,off,hab,hlt,o0,o1,hs1,hs2⟩:=Overs.at (Overs.mono hH.out.1 Ho.out) hkl;cases hab;have Hbad:=dh (show overOk t.overs k=false->methodsR n t=false from fun h=>by rw [Hms.out,allR_no hkl h]; rfl);cases hnm:isNameB (nth t.overs k).name
     ·have Hf:=dh (Hbad.out (by unfold overOk; rw [hnm]; rfl));go_wp2_with (first | (go_at_call 125; refine (isName125 _ _).mono ?_; rintro e w' ⟨rfl,rfl⟩) | (go_at_call 90; refine (isSymbol90 _ hs2 _).mono ?_; rintro e w' ⟨rfl,rfl⟩));go_ret;exact ⟨ret_bool Hf.out.symm,hH.out.1⟩
     cases hsy:isSymbolB (nth t.overs k).proc
     ·have Hf:=dh (Hbad.out (by unfold overOk; rw [hnm,hsy]; rfl));go_wp2_with (first | (go_at_call 125; refine (isName125 _ _).mono ?_; rintro e w' ⟨rfl,rfl⟩) | (go_at_call 90; refine (isSymbol90 _ hs2 _).mono ?_; rintro e w' ⟨rfl,rfl⟩));go_ret;exact ⟨ret_bool Hf.out.symm,hH.out.1⟩
     have Hd:=dh (show overOk t.overs k=diffAt (t.overs.map (·.name)) k by unfold overOk; rw [hnm,hsy]; rfl);go_wp2_with (first | (go_at_call 125; refine (isName125 _ _).mono ?_; rintro e w' ⟨rfl,rfl⟩) | (go_at_call 90; refine (isSymbol90 _ hs2 _).mono ?_; rintro e w' ⟨rfl,rfl⟩));go_loopw [9] (fun i wx=>∃ d:Nat,d<=k/\i=.int .i64 d/\Hid (Ext w wx/\wx.heap[w.heap.size]? = some (.cells (tyArr t pa pl pc ma t.methods.length mc (some ⟨b,off,none⟩) t.overs.length oc) 50 (0,0))/\∀ j,j<d->((nth t.overs j).name==(nth t.overs k).name)=false)) (fun i _=>k-(intOf i).toNat)
     case atStart=>exact ⟨0,Nat.zero_le _,rfl,dh ⟨hH.out.1,hH.out.2.1,fun j hj=>absurd hj (by omega)⟩⟩
     case round =>
      clear b8 b9 o0 o1;obtain ⟨d,hd,rfl,hJ⟩:=hrel;have b8:=(tyBox_of hJ.out.2.1).c8;have b9:=(tyBox_of hJ.out.2.1).c9;by_cases hdl:d<k
      ·have hdm:d<t.overs.length:=by omega
       obtain ⟨b',off',hab2,_,d0,_,_,_⟩:=Overs.at (Overs.mono hJ.out.1 Ho.out) hdm;cases hab2;obtain ⟨b'',off'',hab3,_,e0,_,_,_⟩:=Overs.at (Overs.mono hJ.out.1 Ho.out) hkl;cases hab3;cases heq:((nth t.overs d).name==(nth t.overs k).name)
       ·have heq2:(ByteArray.toList (nth t.overs d).name==ByteArray.toList (nth t.overs k).name)=false:=(beq_toListBytes _ _).symm.trans heq;have HJ2:=dh (show ∀ j,j<d+1->((nth t.overs j).name==(nth t.overs k).name)=false by
         intro j hj;by_cases hjd:j=d
         ·rw [hjd]; exact heq
         ·exact hJ.out.2.2 j (by omega))
        go_upto_region 20 with (fail);refine Zr 99 ?_;change wpE _ _ _ _ _ _ _ _ (World.drew _);refine Zg 0 ?_;refine Zc 1 b9 ?_;refine Zg 2 ?_;refine Zg 3 ?_;refine Zg 4 ?_;refine Zc 5 d0 ?_;refine Zg 6 ?_;refine Zc 7 b9 ?_;refine Zg 8 ?_;refine Zg 9 ?_;refine Zg 10 ?_;refine Zc 11 e0 ?_;refine Zg 12 ?_;refine Zd ?_;go_wp2_with fail;go_roundw
        case rel=>exact ⟨d+1,by omega,by go_num,dh ⟨hJ.out.1.trans (Ext.drew _),((Ext.drew _).block _ (row_lt hJ.out.2.1)).trans hJ.out.2.1,HJ2.out⟩⟩
        case measure=>simp [intOf]; omega
       ·have heq2:(ByteArray.toList (nth t.overs d).name==ByteArray.toList (nth t.overs k).name)=true:=(beq_toListBytes _ _).symm.trans heq;have Hf:=dh (Hbad.out (by
         rw [Hd.out];refine allR_no hdl ?_;rw [nth_map _ hdm,nth_map _ hkl,heq]; rfl))
        go_upto_region 20 with (fail);refine Zr 99 ?_;change wpE _ _ _ _ _ _ _ _ (World.drew _);refine Zg 0 ?_;refine Zc 1 b9 ?_;refine Zg 2 ?_;refine Zg 3 ?_;refine Zg 4 ?_;refine Zc 5 d0 ?_;refine Zg 6 ?_;refine Zc 7 b9 ?_;refine Zg 8 ?_;refine Zg 9 ?_;refine Zg 10 ?_;refine Zc 11 e0 ?_;refine Zg 12 ?_;refine Zd ?_;go_wp2_with fail;go_ret;exact ⟨ret_bool Hf.out.symm,hJ.out.1.trans (Ext.drew _)⟩
      ·have HJ2:=dh (show ∀ j,j<k+1->overOk t.overs j=true by
        intro j hj;by_cases hjk:j=k
        ·rw [hjk,Hd.out];refine allR_yes (fun i hi=>?_);rw [nth_map _ (show i<t.overs.length by omega),nth_map _ hkl,hJ.out.2.2 i (by omega)]; rfl
        ·exact hH.out.2.2 j (by omega))
       go_wp2_with fail;go_roundw
       case rel=>exact ⟨k+1,by omega,by go_num,dh ⟨hJ.out.1,hJ.out.2.1,HJ2.out⟩⟩
       case measure=>simp [intOf]; omega
    ·have Hov:=dh (show methodsR n t=(decide (t.methods.length<=8)&&decide (t.overs.length<=8)) by
      rw [Hms.out,allR_yes (fun j hj=>hH.out.2.2 j (by omega))]; rfl)
     rcases Nat.lt_or_ge 8 t.methods.length with h8 | h8
     ·have Hv:=dh (show methodsR n t=false by rw [Hov.out,decide_eq_false (show ¬ t.methods.length<=8 by omega)]; rfl);go_wp2_with fail;go_ret;exact ⟨ret_bool (Eq.trans (by first | rfl | (rw [Bool.eq_iff_iff]; simp; done) | (rw [Bool.eq_iff_iff]; simp; omega)) Hv.out.symm),hH.out.1⟩
     rcases Nat.lt_or_ge 8 t.overs.length with h9 | h9
     ·have Hv:=dh (show methodsR n t=false by rw [Hov.out,decide_eq_false (show ¬ t.overs.length<=8 by omega),Bool.and_false]);go_wp2_with fail;go_ret;exact ⟨ret_bool (Eq.trans (by first | rfl | (rw [Bool.eq_iff_iff]; simp; done) | (rw [Bool.eq_iff_iff]; simp; omega)) Hv.out.symm),hH.out.1⟩
     ·have Hv:=dh (show methodsR n t=true by rw [Hov.out,decide_eq_true h8,decide_eq_true h9]; rfl);go_wp2_with fail;go_ret;exact ⟨ret_bool (Eq.trans (by first | rfl | (rw [Bool.eq_iff_iff]; simp; done) | (rw [Bool.eq_iff_iff]; simp; omega)) Hv.out.symm),hH.out.1⟩
end
section
open Go.RowKit Go.Proofs
theorem diff_nodup (xs:List BA):(List.range xs.length).all (diffAt xs)=decide xs.Nodup:=by
 rw [Bool.eq_iff_iff,List.all_eq_true,decide_eq_true_iff];constructor
 ·intro h;rw [List.nodup_iff_pairwise_ne,List.pairwise_iff_getElem];intro i j hi hj hij;have h1:=h j (List.mem_range.2 hj);unfold diffAt at h1;rw [List.all_eq_true] at h1;have h2:=h1 i (List.mem_range.2 hij);rw [nth_eq hi,nth_eq hj] at h2;intro e;rw [e] at h2;simp at h2
 ·intro h j hj;have hj:=List.mem_range.1 hj;unfold diffAt;rw [List.all_eq_true];intro i hi;have hi:=List.mem_range.1 hi;rw [List.nodup_iff_pairwise_ne,List.pairwise_iff_getElem] at h;have:=h i j (by omega) hj hi;rw [nth_eq (by omega),nth_eq hj];simp [this]
theorem all_and {n:Nat} (p q:Nat->Bool):((List.range n).all fun i=>p i&&q i)=((List.range n).all p&&(List.range n).all q):=by
 induction n with
 | zero=>rfl
 | succ n ih =>
  rw [List.range_succ,List.all_append,List.all_append,List.all_append,ih];simp only [List.all_cons,List.all_nil,Bool.and_true];cases (List.range n).all p <;> cases (List.range n).all q <;> cases p n <;> cases q n <;> rfl
theorem parts_eq (n:Nat) (ps:List Part):partsR n ps=((ps.all fun p=>hasI n p.type)&&differentB (ps.map (·.name)) 8):=by
 unfold partsR partOk differentB;rw [all_and (fun i=>isNameB (nth ps i).name&&hasI n (nth ps i).type),all_and (fun i=>isNameB (nth ps i).name),all_range ps (fun p=>isNameB p.name),all_range ps (fun p=>hasI n p.type)];have h:=diff_nodup (ps.map (·.name));rw [List.length_map] at h;rw [h,List.all_map,List.length_map];show _=(_&&(List.all ps (fun p=>isNameB p.name)&&_&&_))
 cases (ps.all fun p=>isNameB p.name) <;> cases (ps.all fun p=>hasI n p.type) <;> cases (decide (ps.map (·.name)).Nodup) <;> cases (decide (ps.length<=8)) <;> rfl
theorem methods_eq (g:List Ty) (t:Ty):(superR g t&&methodsR g.length t)=(superR g t&&((t.methods.all fun m=>signedB g.length m.sig&&(m.proc.size==0||isSymbolB m.proc))&&(t.overs.all fun o=>isSymbolB o.proc)&&differentB (t.methods.map (·.name)) 8&&differentB (t.overs.map (·.name)) 8)):=by
 congr 1
 unfold methodsR methOk overOk differentB;have h1:=diff_nodup (t.methods.map (·.name));have h2:=diff_nodup (t.overs.map (·.name));rw [List.length_map] at h1 h2;rw [all_and (fun i=>isNameB (nth t.methods i).name&&((nth t.methods i).proc.size==0||isSymbolB (nth t.methods i).proc)&&signedB g.length (nth t.methods i).sig),
  all_and (fun i=>isNameB (nth t.methods i).name&&((nth t.methods i).proc.size==0||isSymbolB (nth t.methods i).proc)),all_and (fun i=>isNameB (nth t.methods i).name),
  all_and (fun i=>isNameB (nth t.overs i).name&&isSymbolB (nth t.overs i).proc),all_and (fun i=>isNameB (nth t.overs i).name),h1,h2,
  all_range t.methods (fun m=>isNameB m.name),all_range t.methods (fun m=>m.proc.size==0||isSymbolB m.proc),all_range t.methods (fun m=>signedB g.length m.sig),
  all_range t.overs (fun m=>isNameB m.name),all_range t.overs (fun m=>isSymbolB m.proc)]
 have h3:(t.methods.all fun m=>signedB g.length m.sig&&(m.proc.size==0||isSymbolB m.proc))=((t.methods.all fun m=>signedB g.length m.sig)&&t.methods.all fun m=>m.proc.size==0||isSymbolB m.proc):=by
  rw [<- all_range t.methods,<- all_range t.methods (fun m=>signedB g.length m.sig),<- all_range t.methods (fun m=>m.proc.size==0||isSymbolB m.proc),<- all_and]
 rw [h3,List.all_map,List.all_map,List.length_map,List.length_map];show _=((_&&_)&&_&&(List.all t.methods (fun m=>isNameB m.name)&&_&&_)&&(List.all t.overs (fun m=>isNameB m.name)&&_&&_))
 cases (t.methods.all fun m=>isNameB m.name) <;> cases (t.methods.all fun m=>signedB g.length m.sig) <;> cases (t.methods.all fun m=>m.proc.size==0||isSymbolB m.proc) <;> cases (decide (t.methods.map (·.name)).Nodup) <;> cases (decide (t.methods.length<=8)) <;>
  cases (t.overs.all fun m=>isNameB m.name) <;> cases (t.overs.all fun m=>isSymbolB m.proc) <;> cases (decide (t.overs.map (·.name)).Nodup) <;> cases (decide (t.overs.length<=8)) <;> rfl
def brandR (t:Ty):Bool:=isBrandB t.brand&&(t.branded||t.brand.size==0)
def oneR (n:Nat) (t:Ty):Bool:=match t.parts with | [p]=>p.name.size==0&&hasI n p.type | _=>false
theorem right_plain1 (g:List Ty) {t:Ty} (h:1<=t.kind/\t.kind<=8/\t.kind≠3):rightB g t=(noNums t&&noBrand t&&noSuper t&&noParts t&&noRows t&&noOpq t):=by
 unfold rightB;rw [if_neg h.2.2,if_neg (by omega),if_neg (by omega),if_neg (by omega),if_neg (by omega),if_pos ⟨h.1,h.2.1⟩];cases noNums t <;> cases noBrand t <;> cases noSuper t <;> cases noParts t <;> cases noRows t <;> cases noOpq t <;> rfl
theorem right_range (g:List Ty) {t:Ty} (h:t.kind=3):rightB g t=(rangedB t&&noBrand t&&noSuper t&&noParts t&&noRows t&&noOpq t):=by
 unfold rightB;rw [if_pos h];cases rangedB t <;> cases noBrand t <;> cases noSuper t <;> cases noParts t <;> cases noRows t <;> cases noOpq t <;> rfl
theorem right_held (g:List Ty) {t:Ty} (h:t.kind=9\/t.kind=11):rightB g t=(noNums t&&brandR t&&noSuper t&&oneR g.length t&&noRows t&&noOpq t):=by
 unfold rightB;rw [if_neg (by omega),if_pos h];unfold heldB brandedB oneR;rw [show (isBrandB t.brand&&(t.branded||t.brand.size==0))=brandR t from rfl];cases hp:t.parts with
 | nil=>simp
 | cons p ps =>
  cases ps with
  | nil =>
   simp only [List.all_cons,List.all_nil,Bool.and_true];cases brandR t <;> cases noNums t <;> cases noSuper t <;> cases noRows t <;> cases noOpq t <;> cases (p.name.size==0) <;> cases hasI g.length p.type <;> rfl
  | cons q ps=>simp
theorem right_record (g:List Ty) {t:Ty} (h:t.kind=10):rightB g t=(noNums t&&brandR t&&noSuper t&&decide (1<=t.parts.length)&&partsR g.length t.parts&&noRows t&&noOpq t):=by
 unfold rightB;rw [if_neg (by omega),if_neg (by omega),if_pos h,parts_eq];unfold recordedB brandedB;rw [show (isBrandB t.brand&&(t.branded||t.brand.size==0))=brandR t from rfl,show decide (0<t.parts.length)=decide (1<=t.parts.length) from rfl];cases brandR t <;> cases noNums t <;> cases noSuper t <;> cases noRows t <;> cases noOpq t <;> cases (decide (1<=t.parts.length)) <;> cases (t.parts.all fun p=>hasI g.length p.type) <;> cases (differentB (t.parts.map (·.name)) 8) <;> rfl
theorem right_object (g:List Ty) {t:Ty} (h:t.kind=12):rightB g t=(noNums t&&brandR t&&superR g t&&partsR g.length t.parts&&methodsR g.length t&&noOpq t):=by
 have hm:=methods_eq g t;unfold rightB;rw [if_neg (by omega),if_neg (by omega),if_neg (by omega),if_pos h,parts_eq];unfold objectsB brandedB objectB;rw [show (isBrandB t.brand&&(t.branded||t.brand.size==0))=brandR t from rfl,show overB g t.super [12,6,7,8,13]=superR g t by unfold superR; rw [if_neg (by omega)]];generalize ((t.methods.all fun m=>signedB g.length m.sig&&(m.proc.size==0||isSymbolB m.proc))&&(t.overs.all fun o=>isSymbolB o.proc)&&differentB (t.methods.map (·.name)) 8&&differentB (t.overs.map (·.name)) 8)=X at hm ⊢
 revert hm
 cases brandR t <;> cases noNums t <;> cases superR g t <;> cases noOpq t <;> cases methodsR g.length t <;> cases X <;> cases (t.parts.all fun p=>hasI g.length p.type) <;> cases (differentB (t.parts.map (·.name)) 8) <;> simp
theorem right_opaque (g:List Ty) {t:Ty} (h:t.kind=13):rightB g t=(noNums t&&noBrand t&&superR g t&&noParts t&&noRows t&&isSymbolB t.opq):=by
 unfold rightB;rw [if_neg (by omega),if_neg (by omega),if_neg (by omega),if_neg (by omega),if_pos h];unfold opqB;rw [show overB g t.super [12,6,7,8,13,4]=superR g t by unfold superR; rw [if_pos h]];cases isSymbolB t.opq <;> cases noNums t <;> cases noBrand t <;> cases superR g t <;> cases noParts t <;> cases noRows t <;> rfl
theorem right_none (g:List Ty) {t:Ty} (h:¬ (1<=t.kind/\t.kind<=13)):rightB g t=false:=by
 unfold rightB;rw [if_neg (by omega),if_neg (by omega),if_neg (by omega),if_neg (by omega),if_neg (by omega),if_neg (by omega)]
end
section
open Go.RowKit Go.Proofs
theorem empty_beq (s:BA):(ByteArray.toList s==[])=(s.size==0):=by
 by_cases h:s.toList=[]
 ·rw [size_zero h,h]; rfl
 ·rw [size_pos h,beq_eq_false_iff_ne.2 h]
theorem said_a (ga:Option Addr) (n gc:Nat) (g:List Ty) (t:Ty) (pa:Option Addr) (pl pc:Nat) (ma:Option Addr) (ml mc:Nat) (oa:Option Addr) (ol oc:Nat) (w:World) (hg:Graph w (.slice ga n gc) g)
  (hp:Parts w (.slice pa pl pc) t.parts) (hm:Meths w (.slice ma ml mc) t.methods) (ho:Overs w (.slice oa ol oc) t.overs) (hok:TyOk t) (hk:t.kind=1\/t.kind=2\/t.kind=4\/t.kind=5\/t.kind=6\/t.kind=7\/t.kind=8) :
  Calls Tryz.prog 124 #[.slice ga n gc,.agg (tyArr t pa pl pc ma ml mc oa ol oc)] w fun e w'=>e=.returned (.bool (rightB g t))/\Ext w w':=by
 have hgb:=(SlW.bound hg).2;have hpb:=(SlW.bound hp).2;have hmb:=(SlW.bound hm).2;have hob:=(SlW.bound ho).2;obtain rfl:=SlW.len hg;obtain rfl:=SlW.len hp;obtain rfl:=SlW.len hm;obtain rfl:=SlW.len ho;have Hg:=dh hg;have Hp:=dh hp;have Hm:=dh hm;have Ho:=dh ho;have Hok:=dh hok;have Hk:=dh hk;clear hg hp hm ho hok hk;have HE:=dh (Ext.alloc w (.cells (tyArr t pa t.parts.length pc ma t.methods.length mc oa t.overs.length oc) 50));have HB:=dh (show (w.alloc (.cells (tyArr t pa t.parts.length pc ma t.methods.length mc oa t.overs.length oc) 50)).heap[w.heap.size]? = some (.cells (tyArr t pa t.parts.length pc ma t.methods.length mc oa t.overs.length oc) 50 (0,0)) from heap_alloc_new _ _)
 go_enter Tryz.func124,Tryz.ntmps124
 go_upto_region 1 with (fail);obtain ⟨W,hW⟩:∃ W:World,W=w.alloc (.cells (tyArr t pa t.parts.length pc ma t.methods.length mc oa t.overs.length oc) 50):=⟨_,rfl⟩;rw [<- hW] at HE HB ⊢;clear hW;obtain ⟨b0,b1,b2,b3,b4,b5,b6,b7,b8,b9⟩:=tyBox_of HB.out;go_cut [5] from 242 (fun v wx=>v=.bool (noNums t)/\wx=W)
 case first =>
  cases h1:(t.low==0)
  ·have Hv:=dh (show noNums t=false by unfold noNums; rw [h1]; rfl);go_wp2_with fail;go_meet;exact ⟨by rw [Hv.out],rfl⟩
  ·cases h2:(t.high==0)
   ·have Hv:=dh (show noNums t=false by unfold noNums; rw [h1,h2]; rfl);go_wp2_with fail;go_meet;exact ⟨by rw [Hv.out],rfl⟩
   ·have Hv:=dh (show noNums t=true by unfold noNums; rw [h1,h2]; rfl);go_wp2_with fail;go_meet;exact ⟨by rw [Hv.out],rfl⟩
 case rest =>
  obtain ⟨rfl,rfl⟩:=hcut;rename World=>W;go_upto_region 2 with (fail);go_cut [6] from 242 (fun v wx=>v=.bool (noBrand t)/\wx=W)
  case first =>
   have hb:=empty_beq t.brand;cases h1:t.branded
   ·cases h2:(t.brand.size==0)
    ·rw [h2] at hb;have Hv:=dh (show noBrand t=false by unfold noBrand; rw [h1,h2]; rfl);go_wp2_with fail;go_meet;exact ⟨by rw [Hv.out],rfl⟩
    ·rw [h2] at hb;have Hv:=dh (show noBrand t=true by unfold noBrand; rw [h1,h2]; rfl);go_wp2_with fail;go_meet;exact ⟨by rw [Hv.out],rfl⟩
   ·clear hb;have Hv:=dh (show noBrand t=false by unfold noBrand; rw [h1]; rfl);go_wp2_with fail;go_meet;exact ⟨by rw [Hv.out],rfl⟩
  case rest =>
   obtain ⟨rfl,rfl⟩:=hcut;rename World=>W;go_upto_region 3 with (fail);go_cut [7] from 242 (fun v wx=>v=.bool (noSuper t)/\wx=W)
   case first =>
    go_wp2_with fail;go_meet;exact ⟨rfl,rfl⟩
   case rest =>
    obtain ⟨rfl,rfl⟩:=hcut;rename World=>W;go_upto_region 4 with (fail);go_cut [8] from 242 (fun v wx=>v=.bool (noParts t)/\wx=W)
    case first =>
     by_cases h:t.parts.length=0
     ·have hb:((t.parts.length:Int)==0)=true:=beq_iff_eq.2 (by omega);have Hv:=dh (show noParts t=true by unfold noParts; rw [h]; rfl);clear h;go_wp2_with fail;go_meet;exact ⟨by rw [Hv.out],rfl⟩
     ·have hb:((t.parts.length:Int)==0)=false:=beq_eq_false_iff_ne.2 (by omega);have Hv:=dh (show noParts t=false by unfold noParts; exact beq_eq_false_iff_ne.2 h);clear h;go_wp2_with fail;go_meet;exact ⟨by rw [Hv.out],rfl⟩
    case rest =>
     obtain ⟨rfl,rfl⟩:=hcut;rename World=>W;go_upto_region 5 with (fail);go_cut [9] from 242 (fun v wx=>v=.bool (noRows t)/\wx=W)
     case first =>
      by_cases h:t.methods.length=0;rotate_left
      ·have hb:((t.methods.length:Int)==0)=false:=beq_eq_false_iff_ne.2 (by omega);have Hv:=dh (show noRows t=false by unfold noRows; rw [beq_eq_false_iff_ne.2 h]; rfl);clear h;go_wp2_with fail;go_meet;exact ⟨by rw [Hv.out],rfl⟩
      have hb:((t.methods.length:Int)==0)=true:=beq_iff_eq.2 (by omega);by_cases h2:t.overs.length=0
      ·have hb2:((t.overs.length:Int)==0)=true:=beq_iff_eq.2 (by omega);have Hv:=dh (show noRows t=true by unfold noRows; rw [h,h2]; rfl);clear h h2;go_wp2_with fail;go_meet;exact ⟨by rw [Hv.out],rfl⟩
      ·have hb2:((t.overs.length:Int)==0)=false:=beq_eq_false_iff_ne.2 (by omega);have Hv:=dh (show noRows t=false by unfold noRows; rw [h,beq_eq_false_iff_ne.2 h2]; rfl);clear h h2;go_wp2_with fail;go_meet;exact ⟨by rw [Hv.out],rfl⟩
     case rest =>
      obtain ⟨rfl,rfl⟩:=hcut;rename World=>W;go_upto_region 6 with (fail);go_cut [10] from 242 (fun v wx=>v=.bool (noOpq t)/\wx=W)
      case first =>
       have hb:=empty_beq t.opq;cases h2:(t.opq.size==0)
       ·rw [h2] at hb;have Hv:=dh (show noOpq t=false from h2);go_wp2_with fail;go_meet;exact ⟨by rw [Hv.out],rfl⟩
       ·rw [h2] at hb;have Hv:=dh (show noOpq t=true from h2);go_wp2_with fail;go_meet;exact ⟨by rw [Hv.out],rfl⟩
      case rest =>
       obtain ⟨rfl,rfl⟩:=hcut;rename World=>W;go_upto_region 7 with (fail);go_cut [11] from 242 (fun v wx=>v=.bool (brandR t)/\wx=W)
       case first =>
        have hb:=empty_beq t.brand;have hbs:t.brand.size<=140737488351232:=by have:=Hok.out.b; unfold maxBytes at this; omega
        cases h0:isBrandB t.brand
        ·clear hb;have Hv:=dh (show brandR t=false by unfold brandR; rw [h0]; rfl);go_wp2_with (go_at_call 156; refine (isBrand156 _ hbs _).mono ?_; rintro e w' ⟨rfl,rfl⟩);go_meet;exact ⟨by rw [Hv.out],rfl⟩
        cases h1:t.branded
        ·cases h2:(t.brand.size==0)
         ·rw [h2] at hb;have Hv:=dh (show brandR t=false by unfold brandR; rw [h0,h1,h2]; rfl);go_wp2_with (go_at_call 156; refine (isBrand156 _ hbs _).mono ?_; rintro e w' ⟨rfl,rfl⟩);go_meet;exact ⟨by rw [Hv.out],rfl⟩
         ·rw [h2] at hb;have Hv:=dh (show brandR t=true by unfold brandR; rw [h0,h1,h2]; rfl);go_wp2_with (go_at_call 156; refine (isBrand156 _ hbs _).mono ?_; rintro e w' ⟨rfl,rfl⟩);go_meet;exact ⟨by rw [Hv.out],rfl⟩
        ·clear hb;have Hv:=dh (show brandR t=true by unfold brandR; rw [h0,h1]; rfl);go_wp2_with (go_at_call 156; refine (isBrand156 _ hbs _).mono ?_; rintro e w' ⟨rfl,rfl⟩);go_meet;exact ⟨by rw [Hv.out],rfl⟩
       case rest =>
        obtain ⟨rfl,rfl⟩:=hcut;rename World=>W;rcases Hk.out with hk | hk | hk | hk | hk | hk | hk
        all_goals
         clear Hk;have Hk:=dh hk;have Hr:=dh (show rightB g t=_ from right_plain1 g ⟨by have:=Hk.out; omega,by have:=Hk.out; omega,by have:=Hk.out; omega⟩);clear hk;generalize hN:noNums t=N;generalize hB:noBrand t=B;generalize hA:noSuper t=A;generalize hO:noParts t=O;generalize hP:noRows t=P;generalize hQ:noOpq t=Q;generalize hR:brandR t=R;simp only [hN,hB,hA,hO,hP,hQ,hR] at Hr;rw [Hk.out] at b0;clear hN hB hA hO hP hQ hR;cases N
         ·go_wp2_with fail;go_ret;exact ⟨ret_bool (by rw [Hr.out]; rfl),HE.out⟩
         cases B
         ·go_wp2_with fail;go_ret;exact ⟨ret_bool (by rw [Hr.out]; rfl),HE.out⟩
         cases A
         ·go_wp2_with fail;go_ret;exact ⟨ret_bool (by rw [Hr.out]; rfl),HE.out⟩
         cases O
         ·go_wp2_with fail;go_ret;exact ⟨ret_bool (by rw [Hr.out]; rfl),HE.out⟩
         cases P
         ·go_wp2_with fail;go_ret;exact ⟨ret_bool (by rw [Hr.out]; rfl),HE.out⟩
         cases Q
         ·go_wp2_with fail;go_ret;exact ⟨ret_bool (by rw [Hr.out]; rfl),HE.out⟩
         go_wp2_with fail;go_ret;exact ⟨ret_bool (by rw [Hr.out]; rfl),HE.out⟩
end
end Go.Proofs.YtjffkeoajkhbmaaGreat
