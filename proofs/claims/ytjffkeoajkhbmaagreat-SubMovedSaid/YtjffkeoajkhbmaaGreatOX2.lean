/- Names, symbols and brands: what types.IsName, IsSymbol and isBrand return. What types.different returns: the names are names, and differ, and are not too many. types.turned, where what is made is of one cell. slices.Index, Contains and Equal at elements of one cell and at overrides. What types says of the parts of a type: signatures, methods, overrides, brands, kinds. -/
import Derived.Lib.ConvBytes
import Derived.Test.YtjffkeoajkhbmaaGreatOX0
import Derived.Test.YtjffkeoajkhbmaaGreatOX1
namespace Go.Proofs.YtjffkeoajkhbmaaGreat
set_option linter.unusedSimpArgs false
set_option linter.unusedVariables false
set_option maxRecDepth 100000
set_option maxHeartbeats 8000000
section
open Go.RowKit Go.Proofs
theorem ret_bool {a b:Bool} (h:a=b):Ending.returned (.bool a)=.returned (.bool b):=by rw [h]
theorem isLetter152 (b:UInt8) (w:World):Calls Tryz.prog 152 #[.int .u8 b.toNat] w fun e w'=>e=.returned (.bool (isLetterB b))/\w=w':=by
 have hb:=b.toNat_lt
 go_enter Tryz.func152,Tryz.ntmps152
 go_wp2
 all_goals go_ret
 all_goals refine ⟨ret_bool (Bool.eq_iff_iff.2 ?_),rfl⟩
 all_goals simp [isLetterB]
 all_goals omega
theorem isName154 (b:UInt8) (w:World):Calls Tryz.prog 154 #[.int .u8 b.toNat] w fun e w'=>e=.returned (.bool (!(isLetterB b||isDigitB b)))/\w=w':=by
 have hb:=b.toNat_lt;cases hl:isLetterB b
 all_goals
  go_enter Tryz.func154,Tryz.ntmps154
  go_wp2_with (go_at_call 152; refine (isLetter152 b _).mono ?_; rintro e w' ⟨rfl,rfl⟩)
 all_goals go_ret
 all_goals refine ⟨ret_bool (Bool.eq_iff_iff.2 ?_),rfl⟩
 all_goals simp [isDigitB]
 all_goals omega
theorem isBrand198 (b:UInt8) (w:World):Calls Tryz.prog 198 #[.int .u8 b.toNat] w fun e w'=>e=.returned (.bool (!(32<=b.toNat&&b.toNat<=126&&b.toNat != 34)))/\w=w':=by
 have hb:=b.toNat_lt
 go_enter Tryz.func198,Tryz.ntmps198
 go_wp2
 all_goals go_ret
 all_goals refine ⟨ret_bool (Bool.eq_iff_iff.2 ?_),rfl⟩
 all_goals simp
 all_goals omega
theorem bytes_ext (w:World) (s:BA):Ext w (Lib.bytesWorld w 5 s) :=
 ⟨rfl,rfl,rfl,by rw [Lib.bytesWorld_size]; omega,fun k hk=>Lib.bytesWorld_at_old w 5 s k hk⟩
theorem enters154:Enters Tryz.prog 154:=enters_of Tryz.func154 (by kernel_rfl) rfl
theorem enters198:Enters Tryz.prog 198:=enters_of Tryz.func198 (by kernel_rfl) rfl
theorem first_byte (s:BA) (h:0<s.size):s[0]=s.data.toList.getD 0 0:=by
 cases s with | mk d =>
 cases d with | mk l =>
 cases l with
 | nil=>simp [ByteArray.size] at h
 | cons x l=>rfl
theorem contains153 (F:FuncId) (hF:Enters Tryz.prog F) (s:BA) (hs:s.size<=1000) (w:World) (p:UInt8->Bool)
  (hf:∀ b w1,Calls Tryz.prog F #[.int .u8 (UInt8.toNat b)] w1 (fun e w2=>e=.returned (.bool (!p b))/\w1=w2)) :
  Calls Tryz.prog 153 #[.slice (some ⟨w.heap.size,0,none⟩) s.size (grownCap w s.size 0 5),.func (.func F) #[] #[]] (Lib.bytesWorld w 5 s) fun e w2=>e=.returned (.bool (!s.data.toList.all p))/\Ext (Lib.bytesWorld w 5 s) w2:=by
 refine (containsFunc153_p F hF #[] _ s.size _ (by omega) (fun k _=>.int .u8 (s.data.toList.getD k 0).toNat) _ (fun k=>!p (s.data.toList.getD k 0)) ?_ ?_).mono ?_
 ·intro w1 hE i hi;exact ⟨_,_,rfl,by rw [Nat.zero_add]; exact hE.cell (Lib.bytesWorld_cell w 5 s i hi)⟩
 ·intro k w1 hk hE;exact (hf _ w1).mono (fun e w2 h=>⟨h.1,h.2 ▸ Ext.refl _⟩)
 ·rintro e w2 ⟨rfl,hE⟩;refine ⟨ret_bool ?_,hE⟩;have:=any_range s.data.toList (fun b=>!p b);rw [show s.data.toList.length=s.size from rfl] at this;rw [List.not_all_eq_any_not,<- this]
  rfl
theorem isName121 (s:BA) (w:World):Calls Tryz.prog 121 #[.string s] w fun e w'=>e=.returned (.bool (isNameB s))/\Ext w w':=by
 by_cases hlen:1<=s.size/\s.size<=12
 ·obtain ⟨h1,h12⟩:=hlen;have kc:=fun w=>Lib.run_convert_string_bytes (P:=Tryz.prog) w 9 191 5 s Tryz.underlying9 Tryz.underlying191 Tryz.underlying5;have hc:=dh (contains153 154 enters154 s (by omega) w _ (fun b w1=>isName154 b w1));have hs:isNameB s=(isLetterB s[0]&&s.data.toList.all fun b=>isLetterB b||isDigitB b):=by
   unfold isNameB;rw [show (decide (1<=s.size)&&decide (s.size<=12))=true by simp; omega,first_byte s h1]
   rfl
  have Hs:=dh hs; clear hs;have hx:=dh (bytes_ext w s);cases hl:isLetterB s[0]
  all_goals
   go_enter Tryz.func121,Tryz.ntmps121
   go_wp2_with (first | (go_at_call 152; refine (isLetter152 _ _).mono ?_; rintro e w' ⟨rfl,rfl⟩) | (go_at_call 64; go_in) | (go_at_call 153; refine hc.out.mono ?_; rintro e w2 ⟨rfl,hE⟩; have HE:=dh hE; clear hE));go_ret
  ·exact ⟨ret_bool (by rw [Hs.out,hl]; rfl),Ext.refl _⟩
  ·exact ⟨ret_bool (by rw [Hs.out,hl]; simp),hx.out.trans HE.out⟩
 ·have hr:isNameB s=false:=by
   unfold isNameB;rw [show (decide (1<=s.size)&&decide (s.size<=12))=false by simp; omega]
   rfl
  have Hr:=dh hr; clear hr;by_cases h1:1<=s.size
  all_goals
   go_enter Tryz.func121,Tryz.ntmps121
   go_wp2;go_ret;exact ⟨by rw [Hr.out]; rfl,Ext.refl _⟩
theorem run204 (s:BA) (c:Int) (w:World):(callFunc 204 #[.string s,.int .u8 c]).run Tryz.prog w=.ok (.value (.int .i64 (firstIdx s c.toNat.toUInt8))) w:=by
 rw [run_callFunc_extern Tryz.func204 (by kernel_rfl) rfl (by kernel_rfl) (e:=Extern.BytealgIndexByte.indexByte) (by kernel_rfl),run_indexByte_string]
 rfl
theorem firstIdx_dot (s:BA):firstIdx s 46=idxI (fun b=>b==46) s.data.toList:=by
 unfold firstIdx idxI;have h:(List.range s.size).find? (fun i=>s[i]! == 46)=s.data.toList.findIdx? (fun b=>b==46):=by
  cases hf:s.data.toList.findIdx? (fun b=>b==46) with
  | none =>
   rw [List.findIdx?_eq_none_iff] at hf;rw [List.find?_eq_none];intro i hi;have hi':i<s.size:=by simpa using hi
   have:=hf s[i] (by show s.data[i]∈_; simp);rw [getElem!_pos s i hi']
   simpa using this
  | some k =>
   rw [List.findIdx?_eq_some_iff_getElem] at hf;obtain ⟨hk,h1,h2⟩:=hf;have hk':k<s.size:=hk;rw [List.find?_range_eq_some];refine ⟨?_,by simpa using hk',?_⟩
   ·rw [getElem!_pos s k hk']; exact h1
   ·intro j hj;rw [getElem!_pos s j (by omega)];have:=h2 j hj;simp only [Bool.not_eq_true] at this;rw [Bool.not_eq_true'];exact this
 rw [h];cases s.data.toList.findIdx? (fun b=>b==46) <;> rfl
theorem idx_self (s:BA) (h:([46]==s.toList)=true):firstIdx s 46=0:=by
 have h':s.data.toList=[46]:=by rw [<- ByteArray.toList_eq]; exact (beq_iff_eq.1 h).symm
 rw [firstIdx_dot,h']; rfl
theorem index178 (s:BA) (w:World):Calls Tryz.prog 178 #[.string s,.string ⟨#[46]⟩] w fun e w'=>e=.returned (.int .i64 (firstIdx s 46))/\w=w':=by
 have h204:∀ (c:Int) (w:World),_:=run204 s;have h0:=dh (idx_self s)
 go_enter Tryz.func178,Tryz.ntmps178
 go_wp2
 ·go_ret;have h:=h0.out (by assumption);exact ⟨by rw [h]; rfl,rfl⟩
 ·go_ret;exact ⟨rfl,rfl⟩
theorem sym_none {s:BA} (h:firstIdx s 46<0):isSymbolB s=false:=by
 rw [firstIdx_dot] at h;unfold isSymbolB dotAt;unfold idxI at h;cases hf:s.data.toList.findIdx? (fun b=>b==46) with
 | none=>rfl
 | some k=>rw [hf] at h; simp at h; omega
theorem sym_some {s:BA} (h:¬ firstIdx s 46<0):∃ k:Nat,firstIdx s 46=k/\k<s.size/\isSymbolB s=(isNameB (s.extract 0 k)&&isNameB (s.extract (k+1) s.size)):=by
 rw [firstIdx_dot] at h ⊢;unfold isSymbolB dotAt;unfold idxI at h ⊢;cases hf:s.data.toList.findIdx? (fun b=>b==46) with
 | none=>rw [hf] at h; simp at h
 | some k =>
  refine ⟨k,rfl,?_,rfl⟩;rw [List.findIdx?_eq_some_iff_getElem] at hf;exact hf.1
theorem cut151_no (s:BA) (hn:firstIdx s 46<0) (w:World):Calls Tryz.prog 151 #[.string s,.string ⟨#[46]⟩] w fun e w'=>e=.returned (.tuple #[.string s,.string ⟨#[]⟩,.bool false])/\w=w':=by
 have hix:=dh (fun w=>index178 s w);generalize hz:firstIdx s 46=z at hn;rw [hz] at hix;clear hz;have hn':¬ 0<=z:=by omega
 go_enter Tryz.func151,Tryz.ntmps151
 go_wp2_with (go_at_call 178; refine (hix.out _).mono ?_; rintro e w' ⟨rfl,rfl⟩);go_ret3;exact ⟨rfl,rfl⟩
theorem cut151_yes (s:BA) (k:Nat) (hk:firstIdx s 46=k) (hks:k<s.size) (hs:s.size<=140737488351232) (w:World) :
  Calls Tryz.prog 151 #[.string s,.string ⟨#[46]⟩] w fun e w'=>e=.returned (.tuple #[.string (s.extract 0 k),.string (s.extract (k+1) s.size),.bool true])/\Ext w w':=by
 have hix:=dh (fun w=>index178 s w);rw [hk] at hix;clear hk
 go_enter Tryz.func151,Tryz.ntmps151
 go_wp2_with (go_at_call 178; refine (hix.out _).mono ?_; rintro e w' ⟨rfl,rfl⟩)
 go_quiet (fail)
 go_wp2;go_ret3;exact ⟨rfl,below_drewN (Ext.refl w) nq⟩
theorem cut120_no (s:BA) (hn:firstIdx s 46<0) (w:World):Calls Tryz.prog 120 #[.string s,.string ⟨#[46]⟩] w fun e w'=>e=.returned (.tuple #[.string s,.string ⟨#[]⟩,.bool false])/\w=w':=by
 have hix:=dh (fun w=>cut151_no s hn w);clear hn
 go_enter Tryz.func120,Tryz.ntmps120
 go_wp2_with (go_at_call 151; refine (hix.out _).mono ?_; rintro e w' ⟨rfl,rfl⟩);go_ret3;exact ⟨rfl,rfl⟩
theorem cut120_yes (s:BA) (k:Nat) (hk:firstIdx s 46=k) (hks:k<s.size) (hs:s.size<=140737488351232) (w:World) :
  Calls Tryz.prog 120 #[.string s,.string ⟨#[46]⟩] w fun e w'=>e=.returned (.tuple #[.string (s.extract 0 k),.string (s.extract (k+1) s.size),.bool true])/\Ext w w':=by
 have hix:=dh (fun w=>cut151_yes s k hk hks hs w);clear hk
 go_enter Tryz.func120,Tryz.ntmps120
 go_wp2_with (go_at_call 151; refine (hix.out _).mono ?_; rintro e w' ⟨rfl,hE⟩; have HE:=dh hE; clear hE);go_ret3;exact ⟨rfl,HE.out⟩
theorem isSymbol86 (s:BA) (hs:s.size<=140737488351232) (w:World):Calls Tryz.prog 86 #[.string s] w fun e w'=>e=.returned (.bool (isSymbolB s))/\Ext w w':=by
 by_cases hn:firstIdx s 46<0
 ·have hr:=dh (sym_none hn);have hix:=dh (fun w=>cut120_no s hn w);clear hn
  go_enter Tryz.func86,Tryz.ntmps86
  go_wp2_with (go_at_call 120; refine (hix.out _).mono ?_; rintro e w' ⟨rfl,rfl⟩);go_ret;exact ⟨ret_bool (by rw [hr.out]),Ext.refl _⟩
 ·obtain ⟨k,hk,hks,hr⟩:=sym_some hn;have Hr:=dh hr; clear hr;have hix:=dh (fun w=>cut120_yes s k hk hks hs w);clear hk hn;cases h1:isNameB (s.extract 0 k)
  ·go_enter Tryz.func86,Tryz.ntmps86
   go_wp2_with fail;refine (hix.out _).mono ?_;rintro e w1 ⟨rfl,hE⟩;have HE:=dh hE; clear hE;go_wp2_with fail;refine (isName121 _ _).mono ?_;rintro e w2 ⟨rfl,hE2⟩;have HE2:=dh hE2; clear hE2;go_wp2_with fail;go_ret;exact ⟨ret_bool (by rw [Hr.out,h1]; rfl),HE.out.trans HE2.out⟩
  ·go_enter Tryz.func86,Tryz.ntmps86
   go_wp2_with fail;refine (hix.out _).mono ?_;rintro e w1 ⟨rfl,hE⟩;have HE:=dh hE; clear hE;go_wp2_with fail;refine (isName121 _ _).mono ?_;rintro e w2 ⟨rfl,hE2⟩;have HE2:=dh hE2; clear hE2;go_wp2_with fail;refine (isName121 _ _).mono ?_;rintro e w3 ⟨rfl,hE3⟩;have HE3:=dh hE3; clear hE3;go_wp2_with fail;go_ret;exact ⟨ret_bool (by rw [Hr.out,h1]; rfl),(HE.out.trans HE2.out).trans HE3.out⟩
theorem isBrand181 (s:BA) (w:World):Calls Tryz.prog 181 #[.string s] w fun e w'=>e=.returned (.bool (isBrandB s))/\Ext w w':=by
 by_cases h12:s.size<=20
 ·have kc:=fun w=>Lib.run_convert_string_bytes (P:=Tryz.prog) w 9 191 5 s Tryz.underlying9 Tryz.underlying191 Tryz.underlying5;have hc:=dh (contains153 198 enters198 s (by omega) w _ (fun b w1=>isBrand198 b w1));have hs:isBrandB s=(s.data.toList.all fun b=>32<=b.toNat&&b.toNat<=126&&b.toNat != 34):=by
   unfold isBrandB;rw [show decide (s.size<=20)=true by simp; omega]
   rfl
  have Hs:=dh hs; clear hs;have hx:=dh (bytes_ext w s)
  go_enter Tryz.func181,Tryz.ntmps181
  go_wp2_with (go_at_call 153; refine hc.out.mono ?_; rintro e w2 ⟨rfl,hE⟩; have HE:=dh hE; clear hE);go_ret;exact ⟨ret_bool (by rw [Hs.out]; simp),hx.out.trans HE.out⟩
 ·have hr:isBrandB s=false:=by
   unfold isBrandB;rw [show decide (s.size<=20)=false by simp; omega]
   rfl
  have Hr:=dh hr; clear hr
  go_enter Tryz.func181,Tryz.ntmps181
  go_wp2;go_ret;exact ⟨ret_bool (by rw [Hr.out]),Ext.refl _⟩
end
section
open Go.RowKit Go.Proofs
theorem diff_seen {xs:List BA} {k:Nat} {most:Nat} (hk:k<xs.length) (h:nth xs k∈xs.take k):differentB xs most=false:=by
 unfold differentB;have:¬ xs.Nodup:=by
  intro hnd;rw [List.mem_take_iff_getElem] at h;obtain ⟨i,hi,he⟩:=h;have hi':i<k:=by omega
  rw [nth_eq hk] at he;exact List.pairwise_iff_getElem.1 hnd i k (by omega) hk hi' he
 rw [show decide xs.Nodup=false by simpa using this];simp
theorem diff_bad {xs:List BA} {k:Nat} {most:Nat} (hk:k<xs.length) (h:isNameB (nth xs k)=false):differentB xs most=false:=by
 unfold differentB;have:xs.all isNameB=false:=by
  rw [List.all_eq_false];exact ⟨nth xs k,nth_mem hk,by simp [h]⟩
 rw [this]; rfl
theorem diff_end {xs:List BA} {most:Nat} (h1:∀ i,i<xs.length->isNameB (nth xs i)=true) (h2:∀ i,i<xs.length->nth xs i∉xs.take i):differentB xs most=decide (xs.length<=most):=by
 unfold differentB;have e1:xs.all isNameB=true:=by
  rw [List.all_eq_true];intro x hx;obtain ⟨i,hi,rfl⟩:=List.getElem_of_mem hx;rw [<- nth_eq hi]; exact h1 i hi
 have e2:xs.Nodup:=by
  refine List.pairwise_iff_getElem.2 fun i j hi hj hij he=>?_;apply h2 j hj;rw [List.mem_take_iff_getElem];exact ⟨i,by omega,by rw [nth_eq hj]; exact he⟩
 rw [e1,show decide xs.Nodup=true by simpa using e2];simp
theorem mem_take_succ {xs:List BA} {k:Nat} (hk:k<xs.length) (s:BA):(s∈xs.take (k+1))↔(s∈xs.take k\/s=nth xs k):=by
 rw [take_snoc hk]; simp
theorem different172 (a:Option Addr) (n c:Nat) (xs:List BA) (most:Nat) (w:World) (hx:Strs w (.slice a n c) xs) :
  Calls Tryz.prog 172 #[.slice a n c,.int .i64 most] w fun e w'=>e=.returned (.bool (differentB xs most))/\Ext w w':=by
 have hn:=(SlW.bound hx).2;obtain rfl:=SlW.len hx;have hmm:=@run_makeMap Tryz.prog
 go_enter Tryz.func172,Tryz.ntmps172
 go_wp2;go_loopw [7,11] (fun _ i wr=>∃ k:Nat,k<=xs.length/\i=.int .i64 k/\Hid (Ext w wr/\(∀ j,j<k->isNameB (nth xs j)=true)/\(∀ j,j<k->nth xs j∉xs.take j) /\
   ∃ m,MapAt Value.string wr w.heap.size m/\∀ s,(alook s m).getD (.bool false)=.bool (decide (s∈xs.take k)))) (fun _ i _=>xs.length-(intOf i).toNat)
 case atStart=>exact ⟨0,Nat.zero_le _,rfl,Ext.alloc _ _,fun j hj=>by omega,fun j hj=>by omega,[],MapAt.made _ _,fun s=>by simp [alook]⟩
 case round =>
  obtain ⟨k,hk,rfl,H⟩:=hrel;obtain ⟨hE,hnm,hno,m,hm,hl⟩:=H.out;clear H;have HE:=dh hE;have Hnm:=dh hnm; clear hnm;have Hno:=dh hno; clear hno;have Hl:=dh hl; clear hl;by_cases hlt:k<xs.length
  ·obtain ⟨b,off,rfl,hb,hc0,hr0⟩:=Strs.at (Strs.mono hE hx) hlt;have hlk:=MapAt.lookup hm Tryz.underlying143 keyString (nth xs k) (z:=.bool false) Tryz.zeroValue4;rw [Hl.out] at hlk;clear hE;by_cases hin:nth xs k∈xs.take k
   ·have hd:=dh (diff_seen (most:=most) hlt hin);rw [show decide (nth xs k∈xs.take k)=true by simpa using hin] at hlk;clear hin;go_wp2;go_ret;exact ⟨ret_bool hd.out.symm,HE.out⟩
   ·have Hin:=dh hin;rw [show decide (nth xs k∈xs.take k)=false by simpa using hin] at hlk;clear hin;cases hisn:isNameB (nth xs k)
    ·have hd:=dh (diff_bad (most:=most) hlt hisn);go_wp2_with (go_at_call 121; refine (isName121 _ _).mono ?_; rintro e w2 ⟨rfl,hE2⟩; have HE2:=dh (HE.out.trans hE2); clear hE2);go_ret;exact ⟨ret_bool hd.out.symm,HE2.out⟩
    ·go_wp2_with fail;refine (isName121 _ _).mono ?_;rintro e w2 ⟨rfl,hE2⟩;have HE2:=dh (HE.out.trans hE2);obtain ⟨w3,hup,hm3,hg3,hs3⟩:=MapAt.update (hm.ext hE2) Tryz.underlying143 keyString (nth xs k) (.bool true);have Hm3:=dh hm3; clear hm3;have Hg3:=dh hg3; clear hg3;have Hs3:=dh hs3; clear hs3;clear hE2 hlk;have hrel:=dh (show Ext w w3/\(∀ j,j<k+1->isNameB (nth xs j)=true)/\(∀ j,j<k+1->nth xs j∉xs.take j) /\
       ∃ m,MapAt Value.string w3 w.heap.size m/\∀ s,(alook s m).getD (.bool false)=.bool (decide (s∈xs.take (k+1))) from by
      refine ⟨Below.grown HE2.out Hg3.out HE2.out.size (fun j hj=>by cases hj; exact Nat.le_refl _),?_,?_,_,Hm3.out,?_⟩
      ·intro j hj;by_cases hjk:j=k
       ·rw [hjk]; exact hisn
       ·exact Hnm.out j (by omega)
      ·intro j hj;by_cases hjk:j=k
       ·rw [hjk]; exact Hin.out
       ·exact Hno.out j (by omega)
      ·intro s;rw [alook_aput];by_cases hs:s=nth xs k
       ·rw [if_pos hs];simp [mem_take_succ hlt,hs]
       ·rw [if_neg hs,Hl.out];simp [mem_take_succ hlt,hs])
     go_wp2;go_roundw
     case rel=>exact ⟨k+1,by omega,by go_num,hrel⟩
     case measure=>simp [intOf]; omega
  ·have:k=xs.length:=by omega
   subst this;have hd:=dh (diff_end (most:=most) Hnm.out Hno.out);clear hE;go_wp2
   all_goals go_ret
   all_goals exact ⟨ret_bool (by rw [hd.out]),HE.out⟩
end
section
open Go.RowKit Go.Proofs
theorem turned78 (F:FuncId) (hF:Enters Tryz.prog F) (cap:Array Value) (a:Option Addr) (n c:Nat) (xs:List Int) (g:Nat->Int) (w:World)
  (hx:Ints w (.slice a n c) xs)
  (hf:∀ k w1,k<n->Ext w w1->Calls Tryz.prog F (#[.int .i64 (nth xs k)]++cap) w1 (fun e w2=>e=.returned (.int .i64 (g k))/\Ext w1 w2)) :
  Calls Tryz.prog 78 #[.slice a n c,.func (.func F) #[] cap] w fun e w2=>∃ v,e=.returned v/\w2.ownsRow w.heap.size 3 1 v n ((List.range n).map fun k=>.int .i64 (g k))/\Ext w w2:=by
 have hn:=(SlW.bound hx).2;have Hf:=dh hf; clear hf;obtain ⟨i0,hi,hz0,hz1,hz2⟩:=info_parts info3
 go_enter Tryz.func78,Tryz.ntmps78
 go_wp2;go_loopw [5,10] (fun v i wr=>∃ k:Nat,k<=n/\i=.int .i64 k/\wr.ownsRow w.heap.size 3 1 v k ((List.range k).map fun k=>.int .i64 (g k))/\Hid (Ext w wr)) (fun _ i _=>n-(intOf i).toNat)
 case atStart=>exact ⟨0,Nat.zero_le _,rfl,World.ownsRow_nil _ _ _ _,Ext.refl w⟩
 case round =>
  obtain ⟨k,hk,rfl,hown,hE⟩:=hrel;by_cases hlt:k<n
  ·obtain ⟨b,off,rfl,hb,hc0,hr0,hr1⟩:=Ints.at (Ints.mono hE.out hx) hlt;have hsz:=hE.out.size;have hEn:∀ (args:Array Value) (w:World),(callFunc F args).run Tryz.prog w=.ok (.enter F args) w:=hF;go_wp2_with fail;refine (Hf.out k _ hlt hE.out).mono ?_;rintro e w2 ⟨rfl,hE2⟩;have hown2:=owns_ext hown hE2;have hE3:=dh (hE.out.trans hE2);have hsz2:=hE2.size;clear hE2;go_wp2_with (at_builtin; refine wpList_append_own _ rfl _ _ 35 rfl w.heap.size 3 i0 (.int .i64 0) 1 8 Tryz.underlying35 hi hz0 hz1 hz2 rfl (by decide) _ _ _ rfl (hown2.alloc _) ⟨w2.heap.size,0,none⟩ 1 1 [.int .i64 (g k)] rfl rfl ?c1 ?c2 ?c3 ?c4 ?c5 ?_)
   case c1=>exact cell_one_new _ _ _
   case c2=>simp [Value.oneCell']
   case c3=>unfold maxLen; omega
   case c4=>omega
   case c5=>simp; omega
   intro v' w3 hown3 hgrow3 _;have hE4:=dh (below_grown hE3.out (by omega) hown2 hgrow3);go_wp2;go_roundw
   case rel=>exact ⟨k+1,by omega,by go_num,by rw [range_snoc]; exact hown3,hE4⟩
   case measure=>simp [intOf]; omega
  ·have:k=n:=by omega
   subst this;go_wp2;go_ret;exact ⟨_,rfl,hown,hE.out⟩
theorem turned173 (F:FuncId) (hF:Enters Tryz.prog F) (cap:Array Value) (a:Option Addr) (n c:Nat) (xs:List Part) (g:Nat->BA) (w:World)
  (hx:Parts w (.slice a n c) xs)
  (hf:∀ k w1,k<n->Ext w w1->Calls Tryz.prog F (#[.agg #[.string (nth xs k).name,.int .i64 (nth xs k).type]]++cap) w1 (fun e w2=>e=.returned (.string (g k))/\Ext w1 w2)) :
  Calls Tryz.prog 173 #[.slice a n c,.func (.func F) #[] cap] w fun e w2=>∃ v,e=.returned v/\w2.ownsRow w.heap.size 9 1 v n ((List.range n).map fun k=>.string (g k))/\Ext w w2:=by
 have hn:=(SlW.bound hx).2;have Hf:=dh hf; clear hf;obtain ⟨i0,hi,hz0,hz1,hz2⟩:=info_parts info9
 go_enter Tryz.func173,Tryz.ntmps173
 go_wp2;go_loopw [5,10] (fun v i wr=>∃ k:Nat,k<=n/\i=.int .i64 k/\wr.ownsRow w.heap.size 9 1 v k ((List.range k).map fun k=>.string (g k))/\Hid (Ext w wr)) (fun _ i _=>n-(intOf i).toNat)
 case atStart=>exact ⟨0,Nat.zero_le _,rfl,World.ownsRow_nil _ _ _ _,Ext.refl w⟩
 case round =>
  obtain ⟨k,hk,rfl,hown,hE⟩:=hrel;by_cases hlt:k<n
  ·obtain ⟨b,off,rfl,hb,hc0,hc1,hs,hi0,hi1⟩:=Parts.at (Parts.mono hE.out hx) hlt;have hsz:=hE.out.size;have hEn:∀ (args:Array Value) (w:World),(callFunc F args).run Tryz.prog w=.ok (.enter F args) w:=hF;go_wp2_with fail;refine (Hf.out k _ hlt (hE.out.trans (Ext.alloc _ _))).mono ?_;rintro e w2 ⟨rfl,hE2⟩;have hown2:=owns_ext (hown.alloc (.cells #[.string (nth xs k).name,.int .i64 (nth xs k).type] 83)) hE2;have hE3:=dh ((hE.out.trans (Ext.alloc _ _)).trans hE2);have hsz2:=hE2.size;simp only [World.size_alloc] at hsz2;clear hE2;go_wp2_with (at_builtin; refine wpList_append_own _ rfl _ _ 84 rfl w.heap.size 9 i0 (.string ⟨#[]⟩) 1 16 Tryz.underlying84 hi hz0 hz1 hz2 rfl (by decide) _ _ _ rfl (hown2.alloc _) ⟨w2.heap.size,0,none⟩ 1 1 [.string (g k)] rfl rfl ?c1 ?c2 ?c3 ?c4 ?c5 ?_)
   case c1=>exact cell_one_new _ _ _
   case c2=>simp [Value.oneCell']
   case c3=>unfold maxLen; omega
   case c4=>omega
   case c5=>simp; omega
   intro v' w3 hown3 hgrow3 _;have hE4:=dh (below_grown hE3.out (by omega) hown2 hgrow3);go_wp2;go_roundw
   case rel=>exact ⟨k+1,by omega,by go_num,by rw [range_snoc]; exact hown3,hE4⟩
   case measure=>simp [intOf]; omega
  ·have:k=n:=by omega
   subst this;go_wp2;go_ret;exact ⟨_,rfl,hown,hE.out⟩
theorem turned184 (F:FuncId) (hF:Enters Tryz.prog F) (cap:Array Value) (a:Option Addr) (n c:Nat) (xs:List Meth) (g:Nat->BA) (w:World)
  (hx:Meths w (.slice a n c) xs)
  (hf:∀ k w1 (aa:Option Addr) (al ac:Nat) (ra:Option Addr) (rl rc:Nat),k<n->Ext w w1->Ints w1 (.slice aa al ac) (nth xs k).sig.args->Strs w1 (.slice ra rl rc) (nth xs k).sig.raises->Calls Tryz.prog F (#[.agg #[.string (nth xs k).name,.slice aa al ac,.int .i64 (nth xs k).sig.result,.slice ra rl rc,.string (nth xs k).proc]]++cap) w1 (fun e w2=>e=.returned (.string (g k))/\Ext w1 w2)) :
  Calls Tryz.prog 184 #[.slice a n c,.func (.func F) #[] cap] w fun e w2=>∃ v,e=.returned v/\w2.ownsRow w.heap.size 9 1 v n ((List.range n).map fun k=>.string (g k))/\Ext w w2:=by
 have hn:=(SlW.bound hx).2;have Hf:=dh hf; clear hf;obtain ⟨i0,hi,hz0,hz1,hz2⟩:=info_parts info9
 go_enter Tryz.func184,Tryz.ntmps184
 go_wp2;go_loopw [5,10] (fun v i wr=>∃ k:Nat,k<=n/\i=.int .i64 k/\wr.ownsRow w.heap.size 9 1 v k ((List.range k).map fun k=>.string (g k))/\Hid (Ext w wr)) (fun _ i _=>n-(intOf i).toNat)
 case atStart=>exact ⟨0,Nat.zero_le _,rfl,World.ownsRow_nil _ _ _ _,Ext.refl w⟩
 case round =>
  obtain ⟨k,hk,rfl,hown,hE⟩:=hrel;by_cases hlt:k<n
  ·obtain ⟨b,off,aa,al,ac,ra,rl,rc,rfl,hb,hc0,hc1,hc2,hc3,hc4,hia,hsr,hi0,hi1,hs0,hs1⟩:=Meths.at (Meths.mono hE.out hx) hlt;have hsz:=hE.out.size;have hEn:∀ (args:Array Value) (w:World),(callFunc F args).run Tryz.prog w=.ok (.enter F args) w:=hF;go_wp2_with fail;refine (Hf.out k _ aa al ac ra rl rc hlt (hE.out.trans (Ext.alloc _ _)) (Ints.mono (Ext.alloc _ _) hia) (Strs.mono (Ext.alloc _ _) hsr)).mono ?_;rintro e w2 ⟨rfl,hE2⟩;have hown2:=owns_ext (hown.alloc (.cells #[.string (nth xs k).name,.slice aa al ac,.int .i64 (nth xs k).sig.result,.slice ra rl rc,.string (nth xs k).proc] 88)) hE2;have hE3:=dh ((hE.out.trans (Ext.alloc _ _)).trans hE2);have hsz2:=hE2.size;simp only [World.size_alloc] at hsz2;clear hE2;go_wp2_with (at_builtin; refine wpList_append_own _ rfl _ _ 84 rfl w.heap.size 9 i0 (.string ⟨#[]⟩) 1 16 Tryz.underlying84 hi hz0 hz1 hz2 rfl (by decide) _ _ _ rfl (hown2.alloc _) ⟨w2.heap.size,0,none⟩ 1 1 [.string (g k)] rfl rfl ?c1 ?c2 ?c3 ?c4 ?c5 ?_)
   case c1=>exact cell_one_new _ _ _
   case c2=>simp [Value.oneCell']
   case c3=>unfold maxLen; omega
   case c4=>omega
   case c5=>simp; omega
   intro v' w3 hown3 hgrow3 _;have hE4:=dh (below_grown hE3.out (by omega) hown2 hgrow3);go_wp2;go_roundw
   case rel=>exact ⟨k+1,by omega,by go_num,by rw [range_snoc]; exact hown3,hE4⟩
   case measure=>simp [intOf]; omega
  ·have:k=n:=by omega
   subst this;go_wp2;go_ret;exact ⟨_,rfl,hown,hE.out⟩
theorem turned186 (F:FuncId) (hF:Enters Tryz.prog F) (cap:Array Value) (a:Option Addr) (n c:Nat) (xs:List Over) (g:Nat->BA) (w:World)
  (hx:Overs w (.slice a n c) xs)
  (hf:∀ k w1,k<n->Ext w w1->Calls Tryz.prog F (#[.agg #[.string (nth xs k).name,.string (nth xs k).proc]]++cap) w1 (fun e w2=>e=.returned (.string (g k))/\Ext w1 w2)) :
  Calls Tryz.prog 186 #[.slice a n c,.func (.func F) #[] cap] w fun e w2=>∃ v,e=.returned v/\w2.ownsRow w.heap.size 9 1 v n ((List.range n).map fun k=>.string (g k))/\Ext w w2:=by
 have hn:=(SlW.bound hx).2;have Hf:=dh hf; clear hf;obtain ⟨i0,hi,hz0,hz1,hz2⟩:=info_parts info9
 go_enter Tryz.func186,Tryz.ntmps186
 go_wp2;go_loopw [5,10] (fun v i wr=>∃ k:Nat,k<=n/\i=.int .i64 k/\wr.ownsRow w.heap.size 9 1 v k ((List.range k).map fun k=>.string (g k))/\Hid (Ext w wr)) (fun _ i _=>n-(intOf i).toNat)
 case atStart=>exact ⟨0,Nat.zero_le _,rfl,World.ownsRow_nil _ _ _ _,Ext.refl w⟩
 case round =>
  obtain ⟨k,hk,rfl,hown,hE⟩:=hrel;by_cases hlt:k<n
  ·obtain ⟨b,off,rfl,hb,hc0,hc1,hs,hs1⟩:=Overs.at (Overs.mono hE.out hx) hlt;have hsz:=hE.out.size;have hEn:∀ (args:Array Value) (w:World),(callFunc F args).run Tryz.prog w=.ok (.enter F args) w:=hF;go_wp2_with fail;refine (Hf.out k _ hlt (hE.out.trans (Ext.alloc _ _))).mono ?_;rintro e w2 ⟨rfl,hE2⟩;have hown2:=owns_ext (hown.alloc (.cells #[.string (nth xs k).name,.string (nth xs k).proc] 169)) hE2;have hE3:=dh ((hE.out.trans (Ext.alloc _ _)).trans hE2);have hsz2:=hE2.size;simp only [World.size_alloc] at hsz2;clear hE2;go_wp2_with (at_builtin; refine wpList_append_own _ rfl _ _ 84 rfl w.heap.size 9 i0 (.string ⟨#[]⟩) 1 16 Tryz.underlying84 hi hz0 hz1 hz2 rfl (by decide) _ _ _ rfl (hown2.alloc _) ⟨w2.heap.size,0,none⟩ 1 1 [.string (g k)] rfl rfl ?c1 ?c2 ?c3 ?c4 ?c5 ?_)
   case c1=>exact cell_one_new _ _ _
   case c2=>simp [Value.oneCell']
   case c3=>unfold maxLen; omega
   case c4=>omega
   case c5=>simp; omega
   intro v' w3 hown3 hgrow3 _;have hE4:=dh (below_grown hE3.out (by omega) hown2 hgrow3);go_wp2;go_roundw
   case rel=>exact ⟨k+1,by omega,by go_num,by rw [range_snoc]; exact hown3,hE4⟩
   case measure=>simp [intOf]; omega
  ·have:k=n:=by omega
   subst this;go_wp2;go_ret;exact ⟨_,rfl,hown,hE.out⟩
end
section
open Go.RowKit Go.Proofs
theorem index130 (a:Option Addr) (n c:Nat) (xs:List Int) (x:Int) (w:World) (hx:Ints w (.slice a n c) xs) :
  Calls Tryz.prog 130 #[.slice a n c,.int .i64 x] w fun e w2=>e=.returned (.int .i64 (idxI (fun y=>x==y) xs))/\w=w2:=by
 have hn:=(SlW.bound hx).2;obtain rfl:=SlW.len hx
 go_enter Tryz.func130,Tryz.ntmps130
 go_wp2
 go_loop [5,8] (fun _ i=>∃ k:Nat,k<=xs.length/\i=.int .i64 k/\Hid (∀ j,j<k->(x==nth xs j)=false)) (fun _ i=>xs.length-(intOf i).toNat)
 case atStart=>exact ⟨0,Nat.zero_le _,rfl,fun j hj=>by omega⟩
 case round =>
  obtain ⟨k,hk,rfl,hno⟩:=hrel;by_cases hlt:k<xs.length
  ·obtain ⟨b,off,rfl,hb,hc0,hr0,hr1⟩:=Ints.at hx hlt;cases hxy:(x==nth xs k)
   ·have hno2:=dh (show ∀ j,j<k+1->(x==nth xs j)=false from fun j hj=>by
     by_cases hjk:j=k
     ·rw [hjk]; exact hxy
     ·exact hno.out j (by omega))
    go_wp2;go_round
    case rel=>exact ⟨k+1,by omega,by go_num,hno2⟩
    case measure=>simp [intOf]; omega
   ·have hres:=dh (idxI_some (p:=fun y=>x==y) hlt hxy hno.out);go_wp2;go_ret;exact ⟨by rw [hres.out]; rfl,rfl⟩
  ·have:k=xs.length:=by omega
   subst this;have hres:=dh (idxI_none (p:=fun y=>x==y) hno.out);go_wp2;go_ret;exact ⟨by rw [hres.out]; rfl,rfl⟩
theorem contains95 (a:Option Addr) (n c:Nat) (xs:List Int) (x:Int) (w:World) (hx:Ints w (.slice a n c) xs) :
  Calls Tryz.prog 95 #[.slice a n c,.int .i64 x] w fun e w2=>e=.returned (.bool (xs.any fun y=>x==y))/\w=w2:=by
 have hix:=dh (index130 a n c xs x w hx);clear hx
 go_enter Tryz.func95,Tryz.ntmps95
 go_wp2_with fail;refine hix.out.mono ?_;rintro e w2 ⟨rfl,rfl⟩;have hres:=dh (idxI_any (fun y=>x==y) xs);generalize idxI (fun y=>x==y) xs=z at *;go_wp2;go_ret;exact ⟨by rw [<- hres.out]; rfl,rfl⟩
theorem index203 (a:Option Addr) (n c:Nat) (xs:List Int) (x:Int) (w:World) (hx:U8s w (.slice a n c) xs) :
  Calls Tryz.prog 203 #[.slice a n c,.int .u8 x] w fun e w2=>e=.returned (.int .i64 (idxI (fun y=>x==y) xs))/\w=w2:=by
 have hn:=(SlW.bound hx).2;obtain rfl:=SlW.len hx
 go_enter Tryz.func203,Tryz.ntmps203
 go_wp2
 go_loop [5,8] (fun _ i=>∃ k:Nat,k<=xs.length/\i=.int .i64 k/\Hid (∀ j,j<k->(x==nth xs j)=false)) (fun _ i=>xs.length-(intOf i).toNat)
 case atStart=>exact ⟨0,Nat.zero_le _,rfl,fun j hj=>by omega⟩
 case round =>
  obtain ⟨k,hk,rfl,hno⟩:=hrel;by_cases hlt:k<xs.length
  ·obtain ⟨b,off,rfl,hb,hc0⟩:=U8s.at hx hlt;cases hxy:(x==nth xs k)
   ·have hno2:=dh (show ∀ j,j<k+1->(x==nth xs j)=false from fun j hj=>by
     by_cases hjk:j=k
     ·rw [hjk]; exact hxy
     ·exact hno.out j (by omega))
    go_wp2;go_round
    case rel=>exact ⟨k+1,by omega,by go_num,hno2⟩
    case measure=>simp [intOf]; omega
   ·have hres:=dh (idxI_some (p:=fun y=>x==y) hlt hxy hno.out);go_wp2;go_ret;exact ⟨by rw [hres.out]; rfl,rfl⟩
  ·have:k=xs.length:=by omega
   subst this;have hres:=dh (idxI_none (p:=fun y=>x==y) hno.out);go_wp2;go_ret;exact ⟨by rw [hres.out]; rfl,rfl⟩
theorem contains193 (a:Option Addr) (n c:Nat) (xs:List Int) (x:Int) (w:World) (hx:U8s w (.slice a n c) xs) :
  Calls Tryz.prog 193 #[.slice a n c,.int .u8 x] w fun e w2=>e=.returned (.bool (xs.any fun y=>x==y))/\w=w2:=by
 have hix:=dh (index203 a n c xs x w hx);clear hx
 go_enter Tryz.func193,Tryz.ntmps193
 go_wp2_with fail;refine hix.out.mono ?_;rintro e w2 ⟨rfl,rfl⟩;have hres:=dh (idxI_any (fun y=>x==y) xs);generalize idxI (fun y=>x==y) xs=z at *;go_wp2;go_ret;exact ⟨by rw [<- hres.out]; rfl,rfl⟩
theorem index100 (a:Option Addr) (n c:Nat) (xs:List BA) (x:BA) (w:World) (hx:Strs w (.slice a n c) xs) :
  Calls Tryz.prog 100 #[.slice a n c,.string x] w fun e w2=>e=.returned (.int .i64 (idxI (fun y=>x==y) xs))/\w=w2:=by
 have hn:=(SlW.bound hx).2;obtain rfl:=SlW.len hx
 go_enter Tryz.func100,Tryz.ntmps100
 go_wp2
 go_loop [5,8] (fun _ i=>∃ k:Nat,k<=xs.length/\i=.int .i64 k/\Hid (∀ j,j<k->(x==nth xs j)=false)) (fun _ i=>xs.length-(intOf i).toNat)
 case atStart=>exact ⟨0,Nat.zero_le _,rfl,fun j hj=>by omega⟩
 case round =>
  obtain ⟨k,hk,rfl,hno⟩:=hrel;by_cases hlt:k<xs.length
  ·obtain ⟨b,off,rfl,hb,hc0,hr0⟩:=Strs.at hx hlt;cases hxy:(x==nth xs k)
   ·have hxy2:=hxy; rw [beq_toListBytes] at hxy2; have hno2:=dh (show ∀ j,j<k+1->(x==nth xs j)=false from fun j hj=>by
     by_cases hjk:j=k
     ·rw [hjk]; exact hxy
     ·exact hno.out j (by omega))
    go_wp2;go_round
    case rel=>exact ⟨k+1,by omega,by go_num,hno2⟩
    case measure=>simp [intOf]; omega
   ·have hxy2:=hxy; rw [beq_toListBytes] at hxy2; have hres:=dh (idxI_some (p:=fun y=>x==y) hlt hxy hno.out);go_wp2;go_ret;exact ⟨by rw [hres.out]; rfl,rfl⟩
  ·have:k=xs.length:=by omega
   subst this;have hres:=dh (idxI_none (p:=fun y=>x==y) hno.out);go_wp2;go_ret;exact ⟨by rw [hres.out]; rfl,rfl⟩
end
section
open Go.RowKit Go.Proofs
theorem has99 (a:Option Addr) (n c:Nat) (hn:n*8<=140737488351232) (i:Int) (w:World) :
  Calls Tryz.prog 99 #[.agg #[.slice a n c],.int .i64 i] w fun e w'=>e=.returned (.bool (hasI n i))/\Ext w w':=by
 go_enter Tryz.func99,Tryz.ntmps99
 go_wp2
 all_goals go_ret
 all_goals refine ⟨ret_bool (Bool.eq_iff_iff.2 ?_),Ext.alloc _ _⟩
 all_goals simp [hasI]
 all_goals omega
theorem enters201:Enters Tryz.prog 201:=enters_of Tryz.func201 (by kernel_rfl) rfl
theorem enters183:Enters Tryz.prog 183:=enters_of Tryz.func183 (by kernel_rfl) rfl
theorem enters185:Enters Tryz.prog 185:=enters_of Tryz.func185 (by kernel_rfl) rfl
theorem enters187:Enters Tryz.prog 187:=enters_of Tryz.func187 (by kernel_rfl) rfl
theorem enters189:Enters Tryz.prog 189:=enters_of Tryz.func189 (by kernel_rfl) rfl
theorem enters192:Enters Tryz.prog 192:=enters_of Tryz.func192 (by kernel_rfl) rfl
theorem signed201 (bg:Nat) (a:Option Addr) (n c:Nat) (hn:n*8<=140737488351232) (i:Int) (w:World) (hg:w.cell? ⟨bg,0,none⟩=some (.slice a n c)) :
  Calls Tryz.prog 201 #[.int .i64 i,.pointer (some ⟨bg,0,none⟩)] w fun e w'=>e=.returned (.bool (!hasI n i))/\Ext w w':=by
 go_enter Tryz.func201,Tryz.ntmps201
 go_wp2_with (go_at_call 99; refine (has99 a n c hn i _).mono ?_; rintro e wN ⟨rfl,hE⟩; have HE:=dh hE; clear hE);go_ret;exact ⟨rfl,by (repeat (first | exact Ext.refl _ | (refine Ext.trans ?_ (Hid.out (by assumption))) | (refine Ext.trans ?_ (Ext.alloc _ _)) | (refine Ext.trans ?_ (Ext.drew _)) | (refine below_drewN ?_ _)))⟩
theorem branded183 (bg:Nat) (a:Option Addr) (n c:Nat) (hn:n*8<=140737488351232) (p:Part) (w:World) (hg:w.cell? ⟨bg,0,none⟩=some (.slice a n c)) :
  Calls Tryz.prog 183 #[.agg #[.string p.name,.int .i64 p.type],.pointer (some ⟨bg,0,none⟩)] w fun e w'=>e=.returned (.bool (!hasI n p.type))/\Ext w w':=by
 have hl:=cell_lt hg
 go_enter Tryz.func183,Tryz.ntmps183
 go_wp2_with (go_at_call 99; refine (has99 a n c hn _ _).mono ?_; rintro e wN ⟨rfl,hE⟩; have HE:=dh hE; clear hE);go_ret;exact ⟨rfl,by (repeat (first | exact Ext.refl _ | (refine Ext.trans ?_ (Hid.out (by assumption))) | (refine Ext.trans ?_ (Ext.alloc _ _)) | (refine Ext.trans ?_ (Ext.drew _)) | (refine below_drewN ?_ _)))⟩
theorem name185 (nm pr:BA) (aa:Option Addr) (al ac:Nat) (ra:Option Addr) (rl rc:Nat) (r:Int) (w:World) :
  Calls Tryz.prog 185 #[.agg #[.string nm,.slice aa al ac,.int .i64 r,.slice ra rl rc,.string pr]] w fun e w'=>e=.returned (.string nm)/\Ext w w':=by
 go_enter Tryz.func185,Tryz.ntmps185
 go_wp2;go_ret;exact ⟨rfl,by (repeat (first | exact Ext.refl _ | (refine Ext.trans ?_ (Hid.out (by assumption))) | (refine Ext.trans ?_ (Ext.alloc _ _)) | (refine Ext.trans ?_ (Ext.drew _)) | (refine below_drewN ?_ _)))⟩
theorem name187 (o:Over) (w:World):Calls Tryz.prog 187 #[.agg #[.string o.name,.string o.proc]] w fun e w'=>e=.returned (.string o.name)/\Ext w w':=by
 go_enter Tryz.func187,Tryz.ntmps187
 go_wp2;go_ret;exact ⟨rfl,by (repeat (first | exact Ext.refl _ | (refine Ext.trans ?_ (Hid.out (by assumption))) | (refine Ext.trans ?_ (Ext.alloc _ _)) | (refine Ext.trans ?_ (Ext.drew _)) | (refine below_drewN ?_ _)))⟩
theorem proc192 (o:Over) (ho:o.proc.size<=140737488351232) (w:World):Calls Tryz.prog 192 #[.agg #[.string o.name,.string o.proc]] w fun e w'=>e=.returned (.bool (!isSymbolB o.proc))/\Ext w w':=by
 go_enter Tryz.func192,Tryz.ntmps192
 go_wp2_with (go_at_call 86; refine (isSymbol86 _ ho _).mono ?_; rintro e wN ⟨rfl,hE⟩; have HE:=dh hE; clear hE);go_ret;exact ⟨rfl,by (repeat (first | exact Ext.refl _ | (refine Ext.trans ?_ (Hid.out (by assumption))) | (refine Ext.trans ?_ (Ext.alloc _ _)) | (refine Ext.trans ?_ (Ext.drew _)) | (refine below_drewN ?_ _)))⟩
end
end Go.Proofs.YtjffkeoajkhbmaaGreat
