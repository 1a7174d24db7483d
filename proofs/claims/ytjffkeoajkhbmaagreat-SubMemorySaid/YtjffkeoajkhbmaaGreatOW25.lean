/- The reference's names, symbols and brands: they answer as the types' own. The reference's parts, super types and lists of strings. The reference's lists of strings and signatures. The reference's super types. -/
import Derived.StillTactics
import Derived.Test.YtjffkeoajkhbmaaGreatOW1
import Derived.Test.YtjffkeoajkhbmaaGreatOW2
import Derived.Test.YtjffkeoajkhbmaaGreatOW7
import Derived.Test.YtjffkeoajkhbmaaGreatOW10
import Derived.Test.YtjffkeoajkhbmaaGreatOW14
namespace Go.Proofs.YtjffkeoajkhbmaaGreat
set_option linter.unusedSimpArgs false
set_option linter.unusedVariables false
set_option maxRecDepth 100000
set_option maxHeartbeats 8000000
section
open Go.RowKit Go.Proofs
theorem letter160 (b:UInt8) (w:World):Calls Tryz.prog 160 #[.int .u8 b.toNat] w fun e w'=>e=.returned (.bool (isLetterB b))/\w=w':=by
 have hb:=b.toNat_lt
 go_enter Tryz.func160,Tryz.ntmps160
 go_wp2
 all_goals go_ret
 all_goals refine ⟨ret_bool (Bool.eq_iff_iff.2 ?_),rfl⟩
 all_goals simp [isLetterB]
 all_goals omega
theorem digit161 (b:UInt8) (w:World):Calls Tryz.prog 161 #[.int .u8 b.toNat] w fun e w'=>e=.returned (.bool (isDigitB b))/\w=w':=by
 have hb:=b.toNat_lt
 go_enter Tryz.func161,Tryz.ntmps161
 go_wp2
 all_goals go_ret
 all_goals refine ⟨ret_bool (Bool.eq_iff_iff.2 ?_),rfl⟩
 all_goals simp [isDigitB]
 all_goals omega
def charAt (s:BA) (i:Nat):UInt8:=s.data.toList.getD i 0
theorem charAt_eq (s:BA) {i:Nat} (h:i<s.size):s[i]=charAt s i:=by
 unfold charAt;rw [List.getD_eq_getElem?_getD,List.getElem?_eq_getElem (by exact h)]
 rfl
theorem all_chars (s:BA) (p:UInt8->Bool):s.data.toList.all p=true↔∀ i,i<s.size->p (charAt s i)=true:=by
 rw [List.all_eq_true];constructor
 ·intro h i hi;rw [<- charAt_eq s hi];exact h _ (by show s.data[i]∈_; simp)
 ·intro h b hb;obtain ⟨i,hi,rfl⟩:=List.getElem_of_mem hb;have:=h i hi;rw [<- charAt_eq s hi] at this;exact this
theorem isName125 (s:BA) (w:World):Calls Tryz.prog 125 #[.string s] w fun e w'=>e=.returned (.bool (isNameB s))/\w=w':=by
 by_cases hlen:1<=s.size/\s.size<=12
 ·obtain ⟨h1,h12⟩:=hlen;have hs:isNameB s=(isLetterB s[0]&&s.data.toList.all fun b=>isLetterB b||isDigitB b):=by
   unfold isNameB;rw [show (decide (1<=s.size)&&decide (s.size<=12))=true by simp; omega,first_byte s h1]
   rfl
  have Hs:=dh hs; clear hs;cases hl:isLetterB s[0]
  ·go_enter Tryz.func125,Tryz.ntmps125
   go_wp2_with (go_at_call 160; refine (letter160 _ _).mono ?_; rintro e w' ⟨rfl,rfl⟩);go_ret;exact ⟨ret_bool (by rw [Hs.out,hl]; rfl),rfl⟩
  ·go_enter Tryz.func125,Tryz.ntmps125
   go_wp2_with (go_at_call 160; refine (letter160 _ _).mono ?_; rintro e w' ⟨rfl,rfl⟩);go_loopw [3] (fun i wr=>∃ k:Nat,k<=s.size/\i=.int .i64 k/\wr=w/\Hid (∀ j,j<k->(isLetterB (charAt s j)||isDigitB (charAt s j))=true)) (fun i _=>s.size-(intOf i).toNat)
   case atStart=>exact ⟨0,Nat.zero_le _,rfl,rfl,dh (fun j hj=>absurd hj (by omega))⟩
   case round =>
    obtain ⟨k,hk,rfl,rfl,HP⟩:=hrel;by_cases hkl:k<s.size
    ·have hc:=charAt_eq s hkl;cases h1:isLetterB (charAt s k)
     ·cases h2:isDigitB (charAt s k)
      ·have hr:isNameB s=false:=by
        rw [Hs.out];have:(s.data.toList.all fun b=>isLetterB b||isDigitB b)=false:=by
         cases hb:(s.data.toList.all fun b=>isLetterB b||isDigitB b) with
         | false=>rfl
         | true =>
          have:=(all_chars s _).1 hb k hkl;rw [h1,h2] at this;cases this
        rw [this,Bool.and_false]
       have Hr:=dh hr; clear hr;go_wp2_with (first | (go_at_call 160; refine (letter160 _ _).mono ?_; rintro e w' ⟨rfl,rfl⟩) | (go_at_call 161; refine (digit161 _ _).mono ?_; rintro e w' ⟨rfl,rfl⟩));go_ret;exact ⟨ret_bool Hr.out.symm,rfl⟩
      ·go_wp2_with (first | (go_at_call 160; refine (letter160 _ _).mono ?_; rintro e w' ⟨rfl,rfl⟩) | (go_at_call 161; refine (digit161 _ _).mono ?_; rintro e w' ⟨rfl,rfl⟩));go_roundw
       case rel=>exact ⟨k+1,by omega,by go_num,by trivial,dh (fun j hj=>by
        by_cases hjk:j=k
        ·subst hjk; rw [h2]; simp
        ·exact HP.out j (by omega))⟩
       case measure=>simp [intOf]; omega
     ·go_wp2_with (first | (go_at_call 160; refine (letter160 _ _).mono ?_; rintro e w' ⟨rfl,rfl⟩) | (go_at_call 161; refine (digit161 _ _).mono ?_; rintro e w' ⟨rfl,rfl⟩));go_roundw
      case rel=>exact ⟨k+1,by omega,by go_num,by trivial,dh (fun j hj=>by
       by_cases hjk:j=k
       ·subst hjk; rw [h1]; simp
       ·exact HP.out j (by omega))⟩
      case measure=>simp [intOf]; omega
    ·go_wp2_with fail;go_ret;refine ⟨ret_bool ?_,rfl⟩;rw [Hs.out,hl,(all_chars s _).2 (fun j hj=>HP.out j (by omega))]
     rfl
 ·have hr:isNameB s=false:=by
   unfold isNameB;rw [show (decide (1<=s.size)&&decide (s.size<=12))=false by simp; omega]
   rfl
  have Hr:=dh hr; clear hr;by_cases h1:1<=s.size
  all_goals
   go_enter Tryz.func125,Tryz.ntmps125
   go_wp2;go_ret;exact ⟨by rw [Hr.out]; rfl,rfl⟩
theorem first_idx {p:UInt8->Bool} {s:BA} {k:Nat} (hk:k<s.size) (h1:p (charAt s k)=true) (h:∀ j,j<k->p (charAt s j)=false):s.data.toList.findIdx? p=some k:=by
 rw [List.findIdx?_eq_some_iff_getElem];refine ⟨hk,?_,fun j hj=>?_⟩
 ·have:=charAt_eq s hk;rw [<- this] at h1;exact h1
 ·have:=h j hj;rw [<- charAt_eq s (by omega)] at this;intro h2;have h3:p (s[j]'(by omega))=true:=h2;rw [this] at h3;cases h3
theorem no_idx {p:UInt8->Bool} {s:BA} (h:∀ j,j<s.size->p (charAt s j)=false):s.data.toList.findIdx? p=none:=by
 rw [List.findIdx?_eq_none_iff];intro b hb;obtain ⟨i,hi,rfl⟩:=List.getElem_of_mem hb;have:=h i hi;rw [<- charAt_eq s hi] at this;exact this
theorem isSymbol90 (s:BA) (hs:s.size<=140737488351232) (w:World):Calls Tryz.prog 90 #[.string s] w fun e w'=>e=.returned (.bool (isSymbolB s))/\w=w':=by
 go_enter Tryz.func90,Tryz.ntmps90
 go_wp2;go_loopw [3] (fun i wr=>∃ k:Nat,k<=s.size/\i=.int .i64 k/\wr=w/\Hid (∀ j,j<k->(charAt s j==46)=false)) (fun i _=>s.size-(intOf i).toNat)
 case atStart=>exact ⟨0,Nat.zero_le _,rfl,rfl,dh (fun j hj=>absurd hj (by omega))⟩
 case round =>
  obtain ⟨k,hk,rfl,rfl,HP⟩:=hrel;by_cases hkl:k<s.size
  ·have hc:=charAt_eq s hkl;have hdot:((charAt s k).toNat==46)=(charAt s k==46):=by
    rw [Bool.eq_iff_iff]; simp only [beq_iff_eq];exact ⟨fun h=>UInt8.toNat_inj.1 h,fun h=>by rw [h]; rfl⟩
   cases h1:(charAt s k==46)
   ·rw [h1] at hdot;have hd2:(((charAt s k).toNat:Int)==46)=false:=by
     rw [beq_eq_false_iff_ne] at hdot ⊢;omega
    go_wp2_with fail;go_roundw
    case rel=>exact ⟨k+1,by omega,by go_num,by trivial,dh (fun j hj=>by
     by_cases hjk:j=k
     ·subst hjk; exact h1
     ·exact HP.out j (by omega))⟩
    case measure=>simp [intOf]; omega
   ·rw [h1] at hdot;have hd2:(((charAt s k).toNat:Int)==46)=true:=by
     rw [beq_iff_eq] at hdot ⊢;omega
    have Hsy:=dh (show isSymbolB s=(isNameB (s.extract 0 k)&&isNameB (s.extract (k+1) s.size)) by
     unfold isSymbolB dotAt;rw [first_idx hkl h1 HP.out])
    clear h1 hdot HP;cases hx:isNameB (s.extract 0 k)
    ·go_wp2_with (go_at_call 125; refine (isName125 _ _).mono ?_; rintro e w' ⟨rfl,rfl⟩);go_ret;exact ⟨ret_bool (by rw [Hsy.out,hx]; rfl),rfl⟩
    ·go_wp2_with (go_at_call 125; refine (isName125 _ _).mono ?_; rintro e w' ⟨rfl,rfl⟩);go_ret;exact ⟨ret_bool (by rw [Hsy.out,hx]; rfl),rfl⟩
  ·have hn:isSymbolB s=false:=by
    unfold isSymbolB dotAt;rw [no_idx (fun j hj=>HP.out j (by omega))]
   have Hn:=dh hn;clear hn;go_wp2_with fail;go_ret;exact ⟨ret_bool Hn.out.symm,rfl⟩
theorem isBrand156 (s:BA) (hs:s.size<=140737488351232) (w:World):Calls Tryz.prog 156 #[.string s] w fun e w'=>e=.returned (.bool (isBrandB s))/\w=w':=by
 go_enter Tryz.func156,Tryz.ntmps156
 go_wp2;go_loopw [3] (fun i wr=>∃ k:Nat,k<=s.size/\i=.int .i64 k/\wr=w/\Hid (∀ j,j<k->(decide (32<=(charAt s j).toNat)&&decide ((charAt s j).toNat<=126)&&(charAt s j).toNat != 34)=true)) (fun i _=>s.size-(intOf i).toNat)
 case atStart=>exact ⟨0,Nat.zero_le _,rfl,rfl,dh (fun j hj=>absurd hj (by omega))⟩
 case round =>
  obtain ⟨k,hk,rfl,rfl,HP⟩:=hrel;by_cases hkl:k<s.size
  ·have hc:=charAt_eq s hkl;have Hbad:=dh (show (decide (32<=(charAt s k).toNat)&&decide ((charAt s k).toNat<=126)&&(charAt s k).toNat != 34)=false->isBrandB s=false by
    intro h;unfold isBrandB;cases hb:(s.data.toList.all fun b=>decide (32<=b.toNat)&&decide (b.toNat<=126)&&b.toNat != 34) with
    | false=>rw [Bool.and_false]
    | true =>
     have:=(all_chars s _).1 hb k hkl;rw [h] at this;cases this)
   rcases Nat.lt_or_ge (charAt s k).toNat 32 with a | a
   ·go_wp2_with fail;go_ret;exact ⟨ret_bool (Hbad.out (by simp; omega)).symm,rfl⟩
   rcases Nat.lt_or_ge 126 (charAt s k).toNat with a2 | a2
   ·go_wp2_with fail;go_ret;exact ⟨ret_bool (Hbad.out (by simp; omega)).symm,rfl⟩
   by_cases h34:(charAt s k).toNat=34
   ·have h0:(((charAt s k).toNat:Int)==34)=true:=beq_iff_eq.2 (by omega);go_wp2_with fail;go_ret;exact ⟨ret_bool (Hbad.out (by simp; omega)).symm,rfl⟩
   ·have h0:(((charAt s k).toNat:Int)==34)=false:=beq_eq_false_iff_ne.2 (by omega);have HP2:=dh (show ∀ j,j<k+1->(decide (32<=(charAt s j).toNat)&&decide ((charAt s j).toNat<=126)&&(charAt s j).toNat != 34)=true by
     intro j hj;by_cases hjk:j=k
     ·rw [hjk,Bool.and_eq_true,Bool.and_eq_true];exact ⟨⟨decide_eq_true a,decide_eq_true a2⟩,bne_iff_ne.2 h34⟩
     ·exact HP.out j (by omega))
    clear h34 Hbad HP;go_wp2_with fail;go_roundw
    case rel=>exact ⟨k+1,by omega,by go_num,by trivial,HP2⟩
    case measure=>simp [intOf]; omega
  ·have Hn:=dh (show isBrandB s=decide (s.size<=20) by
    unfold isBrandB;rw [(all_chars s _).2 (fun j hj=>HP.out j (by omega)),Bool.and_true])
   clear HP;rcases Nat.lt_or_ge 20 s.size with h20 | h20
   ·go_wp2_with fail;go_ret;exact ⟨ret_bool (by rw [Hn.out,Bool.eq_iff_iff]; simp; omega),rfl⟩
   ·go_wp2_with fail;go_ret;exact ⟨ret_bool (by rw [Hn.out,Bool.eq_iff_iff]; simp; omega),rfl⟩
end
section
open Go.RowKit Go.Proofs
def diffAt (xs:List BA) (i:Nat):Bool:=(List.range i).all fun k=>!(nth xs k==nth xs i)
def partOk (n:Nat) (ps:List Part) (i:Nat):Bool:=isNameB (nth ps i).name&&hasI n (nth ps i).type&&diffAt (ps.map (·.name)) i
def partsR (n:Nat) (ps:List Part):Bool:=((List.range ps.length).all (partOk n ps))&&decide (ps.length<=8)
theorem allR_no {p:Nat->Bool} {n k:Nat} (hk:k<n) (h:p k=false):(List.range n).all p=false:=by
 cases hb:(List.range n).all p with
 | false=>rfl
 | true =>
  rw [List.all_eq_true] at hb;have:=hb k (List.mem_range.2 hk);rw [h] at this; cases this
theorem allR_yes {p:Nat->Bool} {n:Nat} (h:∀ k,k<n->p k=true):(List.range n).all p=true:=by
 rw [List.all_eq_true];exact fun k hk=>h k (List.mem_range.1 hk)
theorem nth_map {α β:Type} [Inhabited α] [Inhabited β] (f:α->β) {xs:List α} {i:Nat} (h:i<xs.length):nth (xs.map f) i=f (nth xs i):=by
 rw [nth_eq h,nth_eq (by simpa using h),List.getElem_map]
theorem parts157 (ga:Option Addr) (n gc:Nat) (hn:n<=140737488351232) (a:Option Addr) (m c:Nat) (ps:List Part) (w:World) (hp:Parts w (.slice a m c) ps) :
  Calls Tryz.prog 157 #[.slice ga n gc,.slice a m c] w fun e w'=>e=.returned (.bool (partsR n ps))/\Ext w w':=by
 have hb:=(SlW.bound hp).2;obtain rfl:=SlW.len hp;have Hp:=dh hp;clear hp
 go_enter Tryz.func157,Tryz.ntmps157
 go_wp2;go_loopw [5] (fun i wr=>∃ k:Nat,k<=ps.length/\i=.int .i64 k/\Hid (Ext w wr/\∀ j,j<k->partOk n ps j=true)) (fun i _=>ps.length-(intOf i).toNat)
 case atStart=>exact ⟨0,Nat.zero_le _,rfl,dh ⟨Ext.refl _,fun j hj=>absurd hj (by omega)⟩⟩
 case round =>
  obtain ⟨k,hk,rfl,hH⟩:=hrel;by_cases hkl:k<ps.length
  ·obtain ⟨b,off,hab,hlt,c0,c1,hsz,hlo,hhi⟩:=Parts.at (Parts.mono hH.out.1 Hp.out) hkl;cases hab;have Hbad:=dh (show partOk n ps k=false->partsR n ps=false from fun h=>by unfold partsR; rw [allR_no hkl h]; rfl);have Hk:=dh (show partOk n ps k=(isNameB (nth ps k).name&&hasI n (nth ps k).type&&diffAt (ps.map (·.name)) k) from rfl);cases hnm:isNameB (nth ps k).name
   ·go_wp2_with (go_at_call 125; refine (isName125 _ _).mono ?_; rintro e w' ⟨rfl,rfl⟩);go_ret;exact ⟨ret_bool (Hbad.out (by rw [Hk.out,hnm]; rfl)).symm,hH.out.1⟩
   cases hty:hasI n (nth ps k).type
   ·have hty2:(nth ps k).type<0\/(n:Int)<=(nth ps k).type:=by
     rcases Int.lt_or_le (nth ps k).type 0 with h | h
     ·exact Or.inl h
     ·rcases Int.lt_or_le (nth ps k).type n with h2 | h2
      ·have:=hasI_iff.2 ⟨h,h2⟩;rw [hty] at this; cases this
      ·exact Or.inr h2
    have Hf:=dh (Hbad.out (by rw [Hk.out,hnm,hty]; rfl));rcases Int.lt_or_le (nth ps k).type 0 with h0 | h0
    ·clear hty hty2;go_wp2_with (go_at_call 125; refine (isName125 _ _).mono ?_; rintro e w' ⟨rfl,rfl⟩);go_ret;exact ⟨ret_bool Hf.out.symm,hH.out.1⟩
    ·have hge:(n:Int)<=(nth ps k).type:=hty2.resolve_left (by omega);clear hty hty2;go_wp2_with (go_at_call 125; refine (isName125 _ _).mono ?_; rintro e w' ⟨rfl,rfl⟩);go_ret;exact ⟨ret_bool Hf.out.symm,hH.out.1⟩
   have hin:=hasI_iff.1 hty;have Hd:=dh (show partOk n ps k=diffAt (ps.map (·.name)) k by rw [Hk.out,hnm,hty]; rfl);go_wp2_with (go_at_call 125; refine (isName125 _ _).mono ?_; rintro e w' ⟨rfl,rfl⟩);go_loopw [6] (fun i wx=>∃ d:Nat,d<=k/\i=.int .i64 d/\Hid (Ext w wx/\∀ j,j<d->((nth ps j).name==(nth ps k).name)=false)) (fun i _=>k-(intOf i).toNat)
   case atStart=>exact ⟨0,Nat.zero_le _,rfl,dh ⟨hH.out.1,fun j hj=>absurd hj (by omega)⟩⟩
   case round =>
    obtain ⟨d,hd,rfl,hJ⟩:=hrel;by_cases hdl:d<k
    ·have hdps:d<ps.length:=by omega
     obtain ⟨b1,off1,hab1,_,d0,_,_,_,_⟩:=Parts.at (Parts.mono hJ.out.1 Hp.out) (show d<ps.length by omega);cases hab1;obtain ⟨b2,off2,hab2,_,e0,_,_,_,_⟩:=Parts.at (Parts.mono hJ.out.1 Hp.out) hkl;cases hab2;clear c0 c1;cases heq:((nth ps d).name==(nth ps k).name)
     ·have heq2:(ByteArray.toList (nth ps d).name==ByteArray.toList (nth ps k).name)=false:=(beq_toListBytes _ _).symm.trans heq;have HJ2:=dh (show ∀ j,j<d+1->((nth ps j).name==(nth ps k).name)=false by
       intro j hj;by_cases hjd:j=d
       ·rw [hjd]; exact heq
       ·exact hJ.out.2 j (by omega))
      go_upto_region 9 with (fail)
      go_still (by kernel_rfl)
      go_wp2_with fail;go_roundw
      case rel=>exact ⟨d+1,by omega,by go_num,dh ⟨hJ.out.1.trans (Ext.drew _),HJ2.out⟩⟩
      case measure=>simp [intOf]; omega
     ·have heq2:(ByteArray.toList (nth ps d).name==ByteArray.toList (nth ps k).name)=true:=(beq_toListBytes _ _).symm.trans heq;have Hf:=dh (Hbad.out (by
       rw [Hd.out];refine allR_no hdl ?_;rw [nth_map _ (show d<ps.length by omega),nth_map _ hkl,heq]; rfl))
      go_upto_region 9 with (fail)
      go_still (by kernel_rfl)
      go_wp2_with fail;go_ret;exact ⟨ret_bool Hf.out.symm,hJ.out.1.trans (Ext.drew _)⟩
    ·have HJ2:=dh (show ∀ j,j<k+1->partOk n ps j=true by
      intro j hj;by_cases hjk:j=k
      ·rw [hjk,Hd.out];refine allR_yes (fun i hi=>?_);rw [nth_map _ (show i<ps.length by omega),nth_map _ hkl,hJ.out.2 i (by omega)]; rfl
      ·exact hH.out.2 j (by omega))
     go_wp2_with fail;go_roundw
     case rel=>exact ⟨k+1,by omega,by go_num,dh ⟨hJ.out.1,HJ2.out⟩⟩
     case measure=>simp [intOf]; omega
  ·have Hs:=dh (show partsR n ps=decide (ps.length<=8) by
    unfold partsR;rw [allR_yes (fun j hj=>hH.out.2 j (by omega))]
    rfl)
   rcases Nat.lt_or_ge 8 ps.length with h8 | h8
   ·go_wp2_with fail;go_ret;exact ⟨ret_bool (by rw [Hs.out,Bool.eq_iff_iff]; simp; omega),hH.out.1⟩
   ·go_wp2_with fail;go_ret;exact ⟨ret_bool (by rw [Hs.out,Bool.eq_iff_iff]; simp; omega),hH.out.1⟩
end
section
open Go.RowKit Go.Proofs
theorem hasI_no {n:Nat} {i:Int} (h:hasI n i=false) (h0:0<=i):(n:Int)<=i:=by
 rcases Int.lt_or_le i n with h2 | h2
 ·have:=hasI_iff.2 ⟨h0,h2⟩;rw [h] at this; cases this
 ·exact h2
theorem sig180 (ga:Option Addr) (n gc:Nat) (hn:n<=140737488351232) (aa:Option Addr) (al ac:Nat) (ra:Option Addr) (rl rc:Nat) (s:Sig) (w:World) (hia:Ints w (.slice aa al ac) s.args) (hsr:Strs w (.slice ra rl rc) s.raises) (hlo:-9223372036854775808<=s.result) (hhi:s.result<=9223372036854775807) :
  Calls Tryz.prog 180 #[.slice ga n gc,.agg #[.slice aa al ac,.int .i64 s.result,.slice ra rl rc]] w fun e w'=>e=.returned (.bool (signedB n s))/\Ext w w':=by
 have hb1:=(SlW.bound hia).2;have hb2:=(SlW.bound hsr).2;obtain rfl:=SlW.len hia;obtain rfl:=SlW.len hsr;have Hia:=dh hia;have Hsr:=dh hsr;clear hia hsr;have HE:=dh (Ext.alloc w (.cells #[.slice aa s.args.length ac,.int .i64 s.result,.slice ra s.raises.length rc] 86));have HB:=dh (show (w.alloc (.cells #[.slice aa s.args.length ac,.int .i64 s.result,.slice ra s.raises.length rc] 86)).heap[w.heap.size]? = some (.cells #[.slice aa s.args.length ac,.int .i64 s.result,.slice ra s.raises.length rc] 86 (0,0)) from heap_alloc_new _ _);have Hsg:=dh (show signedB n s=(decide (s.args.length<=6)&&decide (s.raises.length<=6)&&(s.result==-1||hasI n s.result)&&s.args.all (hasI n)&&(List.range s.raises.length).all (raiseB s.raises)) from rfl);have z0:=row_cell HB.out (j:=0) rfl;have z1:=row_cell HB.out (j:=1) rfl;have z2:=row_cell HB.out (j:=2) rfl;rcases Nat.lt_or_ge 6 s.args.length with h6 | h6
 ·have Hf:=dh (show signedB n s=false by rw [Hsg.out,decide_eq_false (show ¬ s.args.length<=6 by omega)]; simp)
  go_enter Tryz.func180,Tryz.ntmps180
  go_wp2_with fail;go_ret;exact ⟨ret_bool Hf.out.symm,HE.out⟩
 rcases Nat.lt_or_ge 6 s.raises.length with h7 | h7
 ·have Hf:=dh (show signedB n s=false by rw [Hsg.out,decide_eq_false (show ¬ s.raises.length<=6 by omega)]; simp)
  go_enter Tryz.func180,Tryz.ntmps180
  go_wp2_with fail;go_ret;exact ⟨ret_bool Hf.out.symm,HE.out⟩
 rcases Int.lt_or_le s.result (-1) with h8 | h8
 ·have Hf:=dh (show signedB n s=false by
   have h1:(s.result==-1)=false:=beq_eq_false_iff_ne.2 (by omega);have h2:hasI n s.result=false:=by unfold hasI; rw [decide_eq_false (show ¬ 0<=s.result by omega)]; rfl
   rw [Hsg.out,h1,h2]; simp)
  go_enter Tryz.func180,Tryz.ntmps180
  go_wp2_with fail;go_ret;exact ⟨ret_bool Hf.out.symm,HE.out⟩
 rcases Int.lt_or_le s.result n with h9 | h9
 rotate_left
 ·have Hf:=dh (show signedB n s=false by
   have h1:(s.result==-1)=false:=beq_eq_false_iff_ne.2 (by omega);have h2:hasI n s.result=false:=by unfold hasI; rw [decide_eq_false (show ¬ s.result<n by omega),Bool.and_false]
   rw [Hsg.out,h1,h2]; simp)
  go_enter Tryz.func180,Tryz.ntmps180
  go_wp2_with fail;go_ret;exact ⟨ret_bool Hf.out.symm,HE.out⟩
 have Hs2:=dh (show signedB n s=(s.args.all (hasI n)&&(List.range s.raises.length).all (raiseB s.raises)) by
  have h1:(s.result==-1||hasI n s.result)=true:=by
   by_cases h:s.result=-1
   ·rw [beq_iff_eq.2 h]; rfl
   ·rw [hasI_iff.2 ⟨by omega,h9⟩,Bool.or_true]
  rw [Hsg.out,h1,decide_eq_true h6,decide_eq_true h7]; rfl)
 clear Hsg
 go_enter Tryz.func180,Tryz.ntmps180
 go_wp2_with fail;go_loopw [5] (fun i wr=>∃ k:Nat,k<=s.args.length/\i=.int .i64 k/\Hid (Ext (w.alloc (.cells #[.slice aa s.args.length ac,.int .i64 s.result,.slice ra s.raises.length rc] 86)) wr/\∀ j,j<k->hasI n (nth s.args j)=true)) (fun i _=>s.args.length-(intOf i).toNat)
 case atStart=>exact ⟨0,Nat.zero_le _,rfl,dh ⟨Ext.refl _,fun j hj=>absurd hj (by omega)⟩⟩
 case round =>
  obtain ⟨k,hk,rfl,hH⟩:=hrel;have HE1:=dh (HE.out.trans hH.out.1);have HB1:=dh ((hH.out.1.block _ (row_lt HB.out)).trans HB.out);clear z0 z1 z2;have z0:=row_cell HB1.out (j:=0) rfl;have z1:=row_cell HB1.out (j:=1) rfl;have z2:=row_cell HB1.out (j:=2) rfl;by_cases hkl:k<s.args.length
  ·obtain ⟨b,off,hab,_,c0,_,_⟩:=Ints.at (Ints.mono HE1.out Hia.out) hkl;cases hab;cases hty:hasI n (nth s.args k)
   ·have Hf:=dh (show signedB n s=false by
     rw [Hs2.out,<- all_range s.args (hasI n),allR_no hkl hty]; rfl)
    rcases Int.lt_or_le (nth s.args k) 0 with h0 | h0
    ·clear hty;go_wp2_with fail;go_ret;exact ⟨ret_bool Hf.out.symm,HE1.out⟩
    ·have hge:=hasI_no hty h0;clear hty;go_wp2_with fail;go_ret;exact ⟨ret_bool Hf.out.symm,HE1.out⟩
   ·have hin:=hasI_iff.1 hty;have HN:=dh (show ∀ j,j<k+1->hasI n (nth s.args j)=true by
     intro j hj;by_cases hjk:j=k
     ·rw [hjk]; exact hty
     ·exact hH.out.2 j (by omega))
    go_wp2_with fail;go_roundw
    case rel=>exact ⟨k+1,by omega,by go_num,dh ⟨hH.out.1,HN.out⟩⟩
    case measure=>simp [intOf]; omega
  ·have Hs3:=dh (show signedB n s=(List.range s.raises.length).all (raiseB s.raises) by
    rw [Hs2.out,<- all_range s.args (hasI n),allR_yes (fun j hj=>hH.out.2 j (by omega))]; rfl)
   go_wp2_with fail;go_loopw [6] (fun i wr=>∃ k:Nat,k<=s.raises.length/\i=.int .i64 k/\Hid (Ext w wr/\wr.heap[w.heap.size]? = some (.cells #[.slice aa s.args.length ac,.int .i64 s.result,.slice ra s.raises.length rc] 86 (0,0))/\∀ j,j<k->raiseB s.raises j=true)) (fun i _=>s.raises.length-(intOf i).toNat)
   case atStart=>exact ⟨0,Nat.zero_le _,rfl,dh ⟨HE1.out,HB1.out,fun j hj=>absurd hj (by omega)⟩⟩
   case round =>
    clear z0 z1 z2 hkl hk hH HE1 HB1;obtain ⟨k,hk,rfl,hR⟩:=hrel;have z2:=row_cell hR.out.2.1 (j:=2) rfl;by_cases hkl:k<s.raises.length
    ·obtain ⟨b,off,hab,_,c0,hr0⟩:=Strs.at (Strs.mono hR.out.1 Hsr.out) hkl;cases hab;have hpre:0<k->wr.cell? ⟨b,off+(k-1),none⟩=some (.string (nth s.raises (k-1))):=fun h=>by
      obtain ⟨b',off',e,_,hc,_⟩:=Strs.at (Strs.mono hR.out.1 Hsr.out) (show k-1<s.raises.length by omega);cases e; exact hc
     have Hbad:=dh (show raiseB s.raises k=false->signedB n s=false from fun h=>by rw [Hs3.out,allR_no hkl h]);by_cases hal:(nth s.raises k).toList=[65,76,69,82,84,69,68]
     ·have halb:((nth s.raises k).toList==[65,76,69,82,84,69,68])=true:=beq_iff_eq.2 hal;by_cases hk0:k=0
      ·have hk1:decide (0<k)=false:=decide_eq_false (by omega);have Hr:=dh (show raiseB s.raises k=true by rw [raiseB_alert hal,beq_iff_eq.2 hk0]; rfl);have HN:=dh (show ∀ j,j<k+1->raiseB s.raises j=true by
        intro j hj;by_cases hjk:j=k
        ·rw [hjk]; exact Hr.out
        ·exact hR.out.2.2 j (by omega))
       clear hpre hk0 hal;go_upto_region 11 with (fail);refine Zr 99 ?_;change wpE _ _ _ _ _ _ _ _ (World.drew _);refine Zg 0 ?_;refine Zc 1 z2 ?_;refine Zg 2 ?_;refine Zg 3 ?_;refine Zc 4 c0 ?_;refine Zg 5 ?_;refine Zg 6 ?_;refine Zs 7 ?_;refine Zs 8 ?_;refine Zs 9 ?_;refine Zs 10 ?_;refine Zs 11 ?_;refine Zs 12 ?_;refine Zs 13 ?_;refine Zg 14 ?_;refine Zg 15 ?_;refine Zg 16 ?_;refine Zg 17 ?_;refine Zg 18 ?_;refine Zs 19 ?_;refine Zs 20 ?_;refine Zs 21 ?_;refine Zs 22 ?_;refine Zs 23 ?_;refine Zs 24 ?_;refine Zs 25 ?_;refine Zs 26 ?_;refine Zs 27 ?_;refine Zs 28 ?_;refine Zs 29 ?_;refine Zs 30 ?_;refine Zg 31 ?_;refine Zg 32 ?_;refine Zd ?_;go_wp2_with fail;go_roundw
       case rel=>exact ⟨k+1,by omega,by go_num,dh ⟨hR.out.1.trans (Ext.drew _),((Ext.drew _).block _ (row_lt hR.out.2.1)).trans hR.out.2.1,HN.out⟩⟩
       case measure=>simp [intOf]; omega
      ·have Hst:=dh (show raiseB s.raises k=Op.bytesLess (nth s.raises (k-1)).toList (nth s.raises k).toList by rw [raiseB_alert hal,beq_eq_false_iff_ne.2 hk0]; rfl);clear hal;have hk1:decide (0<k)=true:=decide_eq_true (by omega);have hkm:k-1<s.raises.length:=by omega
       have hwr:IntKind.i64.wrap ((k:Int)-1)=((k-1:Nat):Int):=by rw [IntKind.wrap_i64]; omega
       have c1:=hpre (by omega);cases hlt2:Op.bytesLess (nth s.raises (k-1)).toList (nth s.raises k).toList
       ·have Hf:=dh (Hbad.out (Hst.out.trans hlt2));go_upto_region 11 with (fail);refine Zr 99 ?_;change wpE _ _ _ _ _ _ _ _ (World.drew _);refine Zg 0 ?_;refine Zc 1 z2 ?_;refine Zg 2 ?_;refine Zg 3 ?_;refine Zc 4 c0 ?_;refine Zg 5 ?_;refine Zg 6 ?_;refine Zs 7 ?_;refine Zs 8 ?_;refine Zs 9 ?_;refine Zs 10 ?_;refine Zs 11 ?_;refine Zs 12 ?_;refine Zs 13 ?_;refine Zg 14 ?_;refine Zg 15 ?_;refine Zg 16 ?_;refine Zg 17 ?_;refine Zg 18 ?_;refine Zg 19 ?_;refine Zc 20 z2 ?_;refine Zg 21 ?_;refine Zg 22 ?_;refine Zg 23 ?_;refine Zc 24 c1 ?_;refine Zg 25 ?_;refine Zc 26 z2 ?_;refine Zg 27 ?_;refine Zg 28 ?_;refine Zc 29 c0 ?_;refine Zg 30 ?_;refine Zg 31 ?_;refine Zg 32 ?_;refine Zd ?_;go_wp2_with fail;go_ret;exact ⟨ret_bool Hf.out.symm,hR.out.1.trans (Ext.drew _)⟩
       ·have Hr:=dh (show raiseB s.raises k=true from Hst.out.trans hlt2);have HN:=dh (show ∀ j,j<k+1->raiseB s.raises j=true by
         intro j hj;by_cases hjk:j=k
         ·rw [hjk]; exact Hr.out
         ·exact hR.out.2.2 j (by omega))
        go_upto_region 11 with (fail);refine Zr 99 ?_;change wpE _ _ _ _ _ _ _ _ (World.drew _);refine Zg 0 ?_;refine Zc 1 z2 ?_;refine Zg 2 ?_;refine Zg 3 ?_;refine Zc 4 c0 ?_;refine Zg 5 ?_;refine Zg 6 ?_;refine Zs 7 ?_;refine Zs 8 ?_;refine Zs 9 ?_;refine Zs 10 ?_;refine Zs 11 ?_;refine Zs 12 ?_;refine Zs 13 ?_;refine Zg 14 ?_;refine Zg 15 ?_;refine Zg 16 ?_;refine Zg 17 ?_;refine Zg 18 ?_;refine Zg 19 ?_;refine Zc 20 z2 ?_;refine Zg 21 ?_;refine Zg 22 ?_;refine Zg 23 ?_;refine Zc 24 c1 ?_;refine Zg 25 ?_;refine Zc 26 z2 ?_;refine Zg 27 ?_;refine Zg 28 ?_;refine Zc 29 c0 ?_;refine Zg 30 ?_;refine Zg 31 ?_;refine Zg 32 ?_;refine Zd ?_;go_wp2_with fail;go_roundw
        case rel=>exact ⟨k+1,by omega,by go_num,dh ⟨hR.out.1.trans (Ext.drew _),((Ext.drew _).block _ (row_lt hR.out.2.1)).trans hR.out.2.1,HN.out⟩⟩
        case measure=>simp [intOf]; omega
     ·have Hr0:=dh (raiseB_other hal);have halb:((nth s.raises k).toList==[65,76,69,82,84,69,68])=false:=beq_eq_false_iff_ne.2 hal;clear hal;cases hsy:isSymbolB (nth s.raises k)
      ·have Hf:=dh (Hbad.out (by rw [Hr0.out,hsy]; rfl));go_upto_region 11 with (fail);refine Zr 99 ?_;change wpE _ _ _ _ _ _ _ _ (World.drew _);refine Zg 0 ?_;refine Zc 1 z2 ?_;refine Zg 2 ?_;refine Zg 3 ?_;refine Zc 4 c0 ?_;refine Zg 5 ?_;refine Zg 6 ?_;refine Zg 7 ?_;refine Zc 8 z2 ?_;refine Zg 9 ?_;refine Zg 10 ?_;refine Zc 11 c0 ?_;refine Zo 12 fun K hK=>?_;go_simp;refine (isSymbol90 _ hr0 _).mono ?_;rintro e w2 ⟨rfl,rfl⟩;rw [hsy];refine hK _ _ (Ext.refl _) ?_; clear hK K;refine Zg 13 ?_;refine Zg 14 ?_;refine Zg 15 ?_;refine Zs 16 ?_;refine Zs 17 ?_;refine Zs 18 ?_;refine Zs 19 ?_;refine Zs 20 ?_;refine Zs 21 ?_;refine Zs 22 ?_;refine Zs 23 ?_;refine Zs 24 ?_;refine Zs 25 ?_;refine Zs 26 ?_;refine Zs 27 ?_;refine Zs 28 ?_;refine Zs 29 ?_;refine Zs 30 ?_;refine Zs 31 ?_;refine Zg 32 ?_;refine Zd ?_;go_wp2_with fail;go_ret;exact ⟨ret_bool Hf.out.symm,hR.out.1.trans (Ext.drew _)⟩
      ·by_cases hk0:k=0
       ·have hk1:decide (0<k)=false:=decide_eq_false (by omega);have Hr:=dh (show raiseB s.raises k=true by rw [Hr0.out,hsy,beq_iff_eq.2 hk0]; rfl);have HN:=dh (show ∀ j,j<k+1->raiseB s.raises j=true by
         intro j hj;by_cases hjk:j=k
         ·rw [hjk]; exact Hr.out
         ·exact hR.out.2.2 j (by omega))
        clear hpre hk0;go_upto_region 11 with (fail);refine Zr 99 ?_;change wpE _ _ _ _ _ _ _ _ (World.drew _);refine Zg 0 ?_;refine Zc 1 z2 ?_;refine Zg 2 ?_;refine Zg 3 ?_;refine Zc 4 c0 ?_;refine Zg 5 ?_;refine Zg 6 ?_;refine Zg 7 ?_;refine Zc 8 z2 ?_;refine Zg 9 ?_;refine Zg 10 ?_;refine Zc 11 c0 ?_;refine Zo 12 fun K hK=>?_;go_simp;refine (isSymbol90 _ hr0 _).mono ?_;rintro e w2 ⟨rfl,rfl⟩;rw [hsy];refine hK _ _ (Ext.refl _) ?_; clear hK K;refine Zg 13 ?_;refine Zg 14 ?_;refine Zg 15 ?_;refine Zg 16 ?_;refine Zg 17 ?_;refine Zg 18 ?_;refine Zs 19 ?_;refine Zs 20 ?_;refine Zs 21 ?_;refine Zs 22 ?_;refine Zs 23 ?_;refine Zs 24 ?_;refine Zs 25 ?_;refine Zs 26 ?_;refine Zs 27 ?_;refine Zs 28 ?_;refine Zs 29 ?_;refine Zs 30 ?_;refine Zg 31 ?_;refine Zg 32 ?_;refine Zd ?_;go_wp2_with fail;go_roundw
        case rel=>exact ⟨k+1,by omega,by go_num,dh ⟨hR.out.1.trans (Ext.drew _),((Ext.drew _).block _ (row_lt hR.out.2.1)).trans hR.out.2.1,HN.out⟩⟩
        case measure=>simp [intOf]; omega
       ·have Hst:=dh (show raiseB s.raises k=Op.bytesLess (nth s.raises (k-1)).toList (nth s.raises k).toList by rw [Hr0.out,hsy,beq_eq_false_iff_ne.2 hk0]; rfl);have hk1:decide (0<k)=true:=decide_eq_true (by omega);have hkm:k-1<s.raises.length:=by omega
        have hwr:IntKind.i64.wrap ((k:Int)-1)=((k-1:Nat):Int):=by rw [IntKind.wrap_i64]; omega
        have c1:=hpre (by omega);cases hlt2:Op.bytesLess (nth s.raises (k-1)).toList (nth s.raises k).toList
        ·have Hf:=dh (Hbad.out (Hst.out.trans hlt2));go_upto_region 11 with (fail);refine Zr 99 ?_;change wpE _ _ _ _ _ _ _ _ (World.drew _);refine Zg 0 ?_;refine Zc 1 z2 ?_;refine Zg 2 ?_;refine Zg 3 ?_;refine Zc 4 c0 ?_;refine Zg 5 ?_;refine Zg 6 ?_;refine Zg 7 ?_;refine Zc 8 z2 ?_;refine Zg 9 ?_;refine Zg 10 ?_;refine Zc 11 c0 ?_;refine Zo 12 fun K hK=>?_;go_simp;refine (isSymbol90 _ hr0 _).mono ?_;rintro e w2 ⟨rfl,rfl⟩;rw [hsy];refine hK _ _ (Ext.refl _) ?_; clear hK K;refine Zg 13 ?_;refine Zg 14 ?_;refine Zg 15 ?_;refine Zg 16 ?_;refine Zg 17 ?_;refine Zg 18 ?_;refine Zg 19 ?_;refine Zc 20 z2 ?_;refine Zg 21 ?_;refine Zg 22 ?_;refine Zg 23 ?_;refine Zc 24 c1 ?_;refine Zg 25 ?_;refine Zc 26 z2 ?_;refine Zg 27 ?_;refine Zg 28 ?_;refine Zc 29 c0 ?_;refine Zg 30 ?_;refine Zg 31 ?_;refine Zg 32 ?_;refine Zd ?_;go_wp2_with fail;go_ret;exact ⟨ret_bool Hf.out.symm,hR.out.1.trans (Ext.drew _)⟩
        ·have Hr:=dh (show raiseB s.raises k=true from Hst.out.trans hlt2);have HN:=dh (show ∀ j,j<k+1->raiseB s.raises j=true by
          intro j hj;by_cases hjk:j=k
          ·rw [hjk]; exact Hr.out
          ·exact hR.out.2.2 j (by omega))
         go_upto_region 11 with (fail);refine Zr 99 ?_;change wpE _ _ _ _ _ _ _ _ (World.drew _);refine Zg 0 ?_;refine Zc 1 z2 ?_;refine Zg 2 ?_;refine Zg 3 ?_;refine Zc 4 c0 ?_;refine Zg 5 ?_;refine Zg 6 ?_;refine Zg 7 ?_;refine Zc 8 z2 ?_;refine Zg 9 ?_;refine Zg 10 ?_;refine Zc 11 c0 ?_;refine Zo 12 fun K hK=>?_;go_simp;refine (isSymbol90 _ hr0 _).mono ?_;rintro e w2 ⟨rfl,rfl⟩;rw [hsy];refine hK _ _ (Ext.refl _) ?_; clear hK K;refine Zg 13 ?_;refine Zg 14 ?_;refine Zg 15 ?_;refine Zg 16 ?_;refine Zg 17 ?_;refine Zg 18 ?_;refine Zg 19 ?_;refine Zc 20 z2 ?_;refine Zg 21 ?_;refine Zg 22 ?_;refine Zg 23 ?_;refine Zc 24 c1 ?_;refine Zg 25 ?_;refine Zc 26 z2 ?_;refine Zg 27 ?_;refine Zg 28 ?_;refine Zc 29 c0 ?_;refine Zg 30 ?_;refine Zg 31 ?_;refine Zg 32 ?_;refine Zd ?_;go_wp2_with fail;go_roundw
         case rel=>exact ⟨k+1,by omega,by go_num,dh ⟨hR.out.1.trans (Ext.drew _),((Ext.drew _).block _ (row_lt hR.out.2.1)).trans hR.out.2.1,HN.out⟩⟩
         case measure=>simp [intOf]; omega
    ·have Hs4:=dh (show signedB n s=true by rw [Hs3.out,allR_yes (fun j hj=>hR.out.2.2 j (by omega))]);go_wp2_with fail;go_ret;exact ⟨ret_bool Hs4.out.symm,hR.out.1⟩
end
section
open Go.RowKit Go.Proofs
def superR (g:List Ty) (t:Ty):Bool:=overB g t.super (if t.kind=13 then [12,6,7,8,13,4] else [12,6,7,8,13])
theorem superR_out {g:List Ty} {t:Ty} (h:hasI g.length t.super=false):superR g t=false:=by unfold superR overB; rw [h]; rfl
theorem super158 (ga:Option Addr) (n gc:Nat) (g:List Ty) (t:Ty) (pa:Option Addr) (pl pc:Nat) (ma:Option Addr) (ml mc:Nat) (oa:Option Addr) (ol oc:Nat) (w:World) (hg:Graph w (.slice ga n gc) g) (hlo:-9223372036854775808<=t.super) (hhi:t.super<=9223372036854775807) :
  Calls Tryz.prog 158 #[.slice ga n gc,.agg (tyArr t pa pl pc ma ml mc oa ol oc)] w fun e w'=>e=.returned (.bool (superR g t))/\Ext w w':=by
 have hb:=(SlW.bound hg).2;obtain rfl:=SlW.len hg;have HE:=dh (Ext.alloc w (.cells (tyArr t pa pl pc ma ml mc oa ol oc) 50));have hbox:(w.alloc (.cells (tyArr t pa pl pc ma ml mc oa ol oc) 50)).heap[w.heap.size]? = some (.cells (tyArr t pa pl pc ma ml mc oa ol oc) 50 (0,0)):=heap_alloc_new _ _;obtain ⟨b0,b1,b2,b3,b4,b5,b6,b7,b8,b9⟩:=tyBox_of hbox;cases hin:hasI g.length t.super
 ·have Hf:=dh (superR_out (t:=t) hin);rcases Int.lt_or_le t.super 0 with h0 | h0
  ·clear hin hbox
   go_enter Tryz.func158,Tryz.ntmps158
   go_wp2_with fail;go_ret;exact ⟨ret_bool Hf.out.symm,HE.out⟩
  ·have hge:=hasI_no hin h0;clear hin hbox
   go_enter Tryz.func158,Tryz.ntmps158
   go_wp2_with fail;go_ret;exact ⟨ret_bool Hf.out.symm,HE.out⟩
 ·have hin2:=hasI_iff.1 hin;obtain ⟨i,hi⟩:∃ i:Nat,t.super=i:=⟨t.super.toNat,by omega⟩;obtain ⟨tb,tof,qa,ql,qc,na,nl,nc,xa,xl,xc,hsl,hlt2,hT⟩:=Graph.at (Graph.mono HE.out hg) (show i<g.length by omega);have t0:=hT.c0;cases hsl;rw [hi] at b6;have hil:i<g.length:=by omega
  have Hs:=dh (show superR g t=(if t.kind=13 then [12,6,7,8,13,4] else [12,6,7,8,13]:List Int).contains (nth g i).kind by
   unfold superR overB;rw [hin,hi]; rfl)
  clear hin hin2 hT hbox hg hlo hhi;obtain ⟨kd,hkd⟩:∃ kd,kd=(nth g i).kind:=⟨_,rfl⟩;rw [<- hkd] at t0 Hs;have Hi:=dh hi;clear hkd hi;by_cases h12:kd=12
  ·subst h12;have Hv:=dh (show superR g t=true by rw [Hs.out]; split <;> decide)
   go_enter Tryz.func158,Tryz.ntmps158
   go_wp2_with fail;go_ret;exact ⟨ret_bool Hv.out.symm,HE.out⟩
  by_cases h6:kd=6
  ·subst h6;have Hv:=dh (show superR g t=true by rw [Hs.out]; split <;> decide)
   go_enter Tryz.func158,Tryz.ntmps158
   go_wp2_with fail;go_ret;exact ⟨ret_bool Hv.out.symm,HE.out⟩
  by_cases h7:kd=7
  ·subst h7;have Hv:=dh (show superR g t=true by rw [Hs.out]; split <;> decide)
   go_enter Tryz.func158,Tryz.ntmps158
   go_wp2_with fail;go_ret;exact ⟨ret_bool Hv.out.symm,HE.out⟩
  by_cases h8:kd=8
  ·subst h8;have Hv:=dh (show superR g t=true by rw [Hs.out]; split <;> decide)
   go_enter Tryz.func158,Tryz.ntmps158
   go_wp2_with fail;go_ret;exact ⟨ret_bool Hv.out.symm,HE.out⟩
  by_cases h13:kd=13
  ·subst h13;have Hv:=dh (show superR g t=true by rw [Hs.out]; split <;> decide)
   go_enter Tryz.func158,Tryz.ntmps158
   go_wp2_with fail;go_ret;exact ⟨ret_bool Hv.out.symm,HE.out⟩
  have e12:=beq_eq_false_iff_ne.2 h12;have e6:=beq_eq_false_iff_ne.2 h6;have e7:=beq_eq_false_iff_ne.2 h7;have e8:=beq_eq_false_iff_ne.2 h8;have e13:=beq_eq_false_iff_ne.2 h13;by_cases h4:kd=4
  ·subst h4;by_cases hk:t.kind=13
   ·have Hv:=dh (show superR g t=true by rw [Hs.out,if_pos hk]; decide);have hkb:(t.kind==13)=true:=beq_iff_eq.2 hk;clear hk h12 h6 h7 h8 h13
    go_enter Tryz.func158,Tryz.ntmps158
    go_wp2_with fail;go_ret;exact ⟨ret_bool Hv.out.symm,HE.out⟩
   ·have Hv:=dh (show superR g t=false by rw [Hs.out,if_neg hk]; decide);have hkb:(t.kind==13)=false:=beq_eq_false_iff_ne.2 hk;clear hk h12 h6 h7 h8 h13
    go_enter Tryz.func158,Tryz.ntmps158
    go_wp2_with fail;go_ret;exact ⟨ret_bool Hv.out.symm,HE.out⟩
  ·have e4:=beq_eq_false_iff_ne.2 h4;have Hv:=dh (show superR g t=false by
    rw [Hs.out];split <;> simp [h12,h6,h7,h8,h13,h4])
   clear h12 h6 h7 h8 h13 h4
   go_enter Tryz.func158,Tryz.ntmps158
   go_wp2_with fail;go_ret;exact ⟨ret_bool Hv.out.symm,HE.out⟩
end
end Go.Proofs.YtjffkeoajkhbmaaGreat
