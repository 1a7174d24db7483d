/- slices.Equal, slices.EqualFunc. types.agree. -/
import Derived.Test.YtjffkeoajkhbmaaGreatOX6
namespace Go.Proofs.YtjffkeoajkhbmaaGreat
set_option linter.unusedSimpArgs false
set_option linter.unusedVariables false
set_option maxRecDepth 100000
set_option maxHeartbeats 8000000
section
open Go.RowKit Go.Proofs
def overEq (x y:Over):Bool:=x.name==y.name&&x.proc==y.proc
def partEq (x y:Part):Bool:=x.name==y.name
def methEq (x y:Meth):Bool :=
 x.name==y.name&&x.proc==y.proc&&x.sig.args.length==y.sig.args.length&&(decide (x.sig.result<0)==decide (y.sig.result<0))&&sameB (fun (a b:BA)=>a==b) x.sig.raises y.sig.raises
theorem ba_eq_list (a b:BA):(a==b)=decide (a.toList=b.toList):=by
 rw [beq_toListBytes,Bool.eq_iff_iff]; simp
theorem equal104 (a:Option Addr) (n c:Nat) (b:Option Addr) (m d:Nat) (xs ys:List Int) (w:World) (hx:Ints w (.slice a n c) xs) (hy:Ints w (.slice b m d) ys) :
  Calls Tryz.prog 104 #[.slice a n c,.slice b m d] w fun e w'=>e=.returned (.bool (sameB (fun (x y:Int)=>x==y) xs ys))/\Ext w w':=by
 have hb1:=(SlW.bound hx).2;have hb2:=(SlW.bound hy).2;obtain rfl:=SlW.len hx;obtain rfl:=SlW.len hy;by_cases hl:xs.length=ys.length
 ·have hs1:=dh (show ∀ k,k<xs.length->(fun (x y:Int)=>x==y) (nth xs k) (nth ys k)=false->sameB (fun (x y:Int)=>x==y) xs ys=false from fun k hk h=>sameB_false hl hk h);have hs2:=dh (show (∀ k,k<xs.length->(fun (x y:Int)=>x==y) (nth xs k) (nth ys k)=true)->sameB (fun (x y:Int)=>x==y) xs ys=true from fun h=>sameB_true hl h);have Hx:=dh hx; clear hx;have Hy:=dh hy; clear hy;have hle:ys.length=xs.length:=hl.symm;rw [hle];have HL:=dh hl; clear hl hle
  go_enter Tryz.func104,Tryz.ntmps104
  go_upto_region 4 with (fail);go_loopw [5,13] (fun _ i wr=>∃ k:Nat,k<=xs.length/\i=.int .i64 k/\Hid (Ext w wr/\∀ j,j<k->(fun (x y:Int)=>x==y) (nth xs j) (nth ys j)=true)) (fun _ i _=>xs.length-(intOf i).toNat)
  case atStart=>exact ⟨0,Nat.zero_le _,rfl,Ext.refl _,fun j hj=>absurd hj (Nat.not_lt_zero _)⟩
  case round =>
   obtain ⟨k,hk,rfl,hH⟩:=hrel;have HE:=dh hH.out.1;have Hall:=dh hH.out.2;clear hH;by_cases hlt:k<xs.length
   ·obtain ⟨xb,xo,hxo,hxl,x0,_⟩:=Ints.at (Ints.mono HE.out Hx.out) hlt;obtain ⟨yb,yo,hyo,hyl,y0,_⟩:=Ints.at (Ints.mono HE.out Hy.out) (show k<ys.length by have:=HL.out; omega);subst hxo hyo;cases hq:(fun (x y:Int)=>x==y) (nth xs k) (nth ys k)
    ·have hr:=dh (hs1.out k hlt hq);have hqb:(nth xs k==nth ys k)=false:=hq
     all_goals clear hq
     all_goals go_upto_region 6 with (fail)
     all_goals go_quiet (fail)
     all_goals go_wp2_with fail
     all_goals go_ret
     all_goals exact ⟨ret_bool hr.out.symm,below_drewN HE.out nq⟩
    ·have hr:=dh hq;have hqb:(nth xs k==nth ys k)=true:=hq;clear hq;go_upto_region 6 with (fail)
     go_quiet (fail)
     go_wp2_with fail;go_roundw
     case rel =>
      refine ⟨k+1,by omega,by go_num,below_drewN HE.out nq,fun j hj=>?_⟩;by_cases hjk:j=k
      ·rw [hjk]; exact hr.out
      ·exact Hall.out j (by omega)
     case measure=>simp [intOf]; omega
   ·have:k=xs.length:=by omega
    subst this;have hr:=dh (hs2.out Hall.out);go_wp2_with fail;go_ret;exact ⟨ret_bool hr.out.symm,HE.out⟩
 ·have hs:=dh (show sameB (fun (x y:Int)=>x==y) xs ys=false from sameB_of_len hl);have hne:((xs.length:Int)==(ys.length:Int))=false:=by rw [beq_eq_false_iff_ne]; omega
  clear hl
  go_enter Tryz.func104,Tryz.ntmps104
  go_wp2_with fail;go_ret;exact ⟨ret_bool hs.out.symm,Ext.refl _⟩
theorem equal163 (a:Option Addr) (n c:Nat) (b:Option Addr) (m d:Nat) (xs ys:List BA) (w:World) (hx:Strs w (.slice a n c) xs) (hy:Strs w (.slice b m d) ys) :
  Calls Tryz.prog 163 #[.slice a n c,.slice b m d] w fun e w'=>e=.returned (.bool (sameB (fun (x y:BA)=>x==y) xs ys))/\Ext w w':=by
 have hb1:=(SlW.bound hx).2;have hb2:=(SlW.bound hy).2;obtain rfl:=SlW.len hx;obtain rfl:=SlW.len hy;by_cases hl:xs.length=ys.length
 ·have hs1:=dh (show ∀ k,k<xs.length->(fun (x y:BA)=>x==y) (nth xs k) (nth ys k)=false->sameB (fun (x y:BA)=>x==y) xs ys=false from fun k hk h=>sameB_false hl hk h);have hs2:=dh (show (∀ k,k<xs.length->(fun (x y:BA)=>x==y) (nth xs k) (nth ys k)=true)->sameB (fun (x y:BA)=>x==y) xs ys=true from fun h=>sameB_true hl h);have Hx:=dh hx; clear hx;have Hy:=dh hy; clear hy;have hle:ys.length=xs.length:=hl.symm;rw [hle];have HL:=dh hl; clear hl hle
  go_enter Tryz.func163,Tryz.ntmps163
  go_upto_region 4 with (fail);go_loopw [5,13] (fun _ i wr=>∃ k:Nat,k<=xs.length/\i=.int .i64 k/\Hid (Ext w wr/\∀ j,j<k->(fun (x y:BA)=>x==y) (nth xs j) (nth ys j)=true)) (fun _ i _=>xs.length-(intOf i).toNat)
  case atStart=>exact ⟨0,Nat.zero_le _,rfl,Ext.refl _,fun j hj=>absurd hj (Nat.not_lt_zero _)⟩
  case round =>
   obtain ⟨k,hk,rfl,hH⟩:=hrel;have HE:=dh hH.out.1;have Hall:=dh hH.out.2;clear hH;by_cases hlt:k<xs.length
   ·obtain ⟨xb,xo,hxo,hxl,x0,_⟩:=Strs.at (Strs.mono HE.out Hx.out) hlt;obtain ⟨yb,yo,hyo,hyl,y0,_⟩:=Strs.at (Strs.mono HE.out Hy.out) (show k<ys.length by have:=HL.out; omega);subst hxo hyo;cases hq:(fun (x y:BA)=>x==y) (nth xs k) (nth ys k)
    ·have hr:=dh (hs1.out k hlt hq);have hqb:¬ (nth xs k).toList=(nth ys k).toList:=by have hq2:(nth xs k==nth ys k)=false:=hq; rw [ba_eq_list] at hq2; simpa using hq2
     have hqc:((nth xs k).toList==(nth ys k).toList)=false:=by rw [beq_eq_false_iff_ne]; exact hqb
     clear hqb
     all_goals clear hq
     all_goals go_upto_region 6 with (fail)
     all_goals go_quiet (fail)
     all_goals go_wp2_with fail
     all_goals go_ret
     all_goals exact ⟨ret_bool hr.out.symm,below_drewN HE.out nq⟩
    ·have hr:=dh hq;have hqb:(nth xs k).toList=(nth ys k).toList:=by have hq2:(nth xs k==nth ys k)=true:=hq; rw [ba_eq_list] at hq2; simpa using hq2
     have hqc:((nth xs k).toList==(nth ys k).toList)=true:=by rw [beq_iff_eq]; exact hqb
     clear hqb;clear hq;go_upto_region 6 with (fail)
     go_quiet (fail)
     go_wp2_with fail;go_roundw
     case rel =>
      refine ⟨k+1,by omega,by go_num,below_drewN HE.out nq,fun j hj=>?_⟩;by_cases hjk:j=k
      ·rw [hjk]; exact hr.out
      ·exact Hall.out j (by omega)
     case measure=>simp [intOf]; omega
   ·have:k=xs.length:=by omega
    subst this;have hr:=dh (hs2.out Hall.out);go_wp2_with fail;go_ret;exact ⟨ret_bool hr.out.symm,HE.out⟩
 ·have hs:=dh (show sameB (fun (x y:BA)=>x==y) xs ys=false from sameB_of_len hl);have hne:((xs.length:Int)==(ys.length:Int))=false:=by rw [beq_eq_false_iff_ne]; omega
  clear hl
  go_enter Tryz.func163,Tryz.ntmps163
  go_wp2_with fail;go_ret;exact ⟨ret_bool hs.out.symm,Ext.refl _⟩
theorem equal135 (a:Option Addr) (n c:Nat) (b:Option Addr) (m d:Nat) (xs ys:List Over) (w:World) (hx:Overs w (.slice a n c) xs) (hy:Overs w (.slice b m d) ys) :
  Calls Tryz.prog 135 #[.slice a n c,.slice b m d] w fun e w'=>e=.returned (.bool (sameB overEq xs ys))/\Ext w w':=by
 have hb1:=(SlW.bound hx).2;have hb2:=(SlW.bound hy).2;obtain rfl:=SlW.len hx;obtain rfl:=SlW.len hy;by_cases hl:xs.length=ys.length
 ·have hs1:=dh (show ∀ k,k<xs.length->overEq (nth xs k) (nth ys k)=false->sameB overEq xs ys=false from fun k hk h=>sameB_false hl hk h);have hs2:=dh (show (∀ k,k<xs.length->overEq (nth xs k) (nth ys k)=true)->sameB overEq xs ys=true from fun h=>sameB_true hl h);have Hx:=dh hx; clear hx;have Hy:=dh hy; clear hy;have hle:ys.length=xs.length:=hl.symm;rw [hle];have HL:=dh hl; clear hl hle
  go_enter Tryz.func135,Tryz.ntmps135
  go_upto_region 4 with (fail);go_loopw [5,13] (fun _ i wr=>∃ k:Nat,k<=xs.length/\i=.int .i64 k/\Hid (Ext w wr/\∀ j,j<k->overEq (nth xs j) (nth ys j)=true)) (fun _ i _=>xs.length-(intOf i).toNat)
  case atStart=>exact ⟨0,Nat.zero_le _,rfl,Ext.refl _,fun j hj=>absurd hj (Nat.not_lt_zero _)⟩
  case round =>
   obtain ⟨k,hk,rfl,hH⟩:=hrel;have HE:=dh hH.out.1;have Hall:=dh hH.out.2;clear hH;by_cases hlt:k<xs.length
   ·obtain ⟨xb,xo,hxo,hxl,x0,x1,_⟩:=Overs.at (Overs.mono HE.out Hx.out) hlt;obtain ⟨yb,yo,hyo,hyl,y0,y1,_⟩:=Overs.at (Overs.mono HE.out Hy.out) (show k<ys.length by have:=HL.out; omega);subst hxo hyo;cases hq:overEq (nth xs k) (nth ys k)
    ·have hr:=dh (hs1.out k hlt hq);have hqb:(¬ (nth xs k).name.toList=(nth ys k).name.toList)\/((nth xs k).name.toList=(nth ys k).name.toList/\¬ (nth xs k).proc.toList=(nth ys k).proc.toList):=by
      unfold overEq at hq; rw [ba_eq_list,ba_eq_list] at hq;by_cases h1:(nth xs k).name.toList=(nth ys k).name.toList <;> simp_all
     rcases hqb with hqb | ⟨hqa,hqb⟩
     all_goals clear hq
     all_goals go_upto_region 6 with (fail)
     all_goals go_quiet (fail)
     all_goals go_wp2_with fail
     all_goals go_ret
     all_goals exact ⟨ret_bool hr.out.symm,below_drewN HE.out nq⟩
    ·have hr:=dh hq;have hqb:(nth xs k).name.toList=(nth ys k).name.toList/\(nth xs k).proc.toList=(nth ys k).proc.toList:=by
      unfold overEq at hq; rw [ba_eq_list,ba_eq_list] at hq; simpa using hq
     obtain ⟨hqa,hqb⟩:=hqb;clear hq;go_upto_region 6 with (fail)
     go_quiet (fail)
     go_wp2_with fail;go_roundw
     case rel =>
      refine ⟨k+1,by omega,by go_num,below_drewN HE.out nq,fun j hj=>?_⟩;by_cases hjk:j=k
      ·rw [hjk]; exact hr.out
      ·exact Hall.out j (by omega)
     case measure=>simp [intOf]; omega
   ·have:k=xs.length:=by omega
    subst this;have hr:=dh (hs2.out Hall.out);go_wp2_with fail;go_ret;exact ⟨ret_bool hr.out.symm,HE.out⟩
 ·have hs:=dh (show sameB overEq xs ys=false from sameB_of_len hl);have hne:((xs.length:Int)==(ys.length:Int))=false:=by rw [beq_eq_false_iff_ne]; omega
  clear hl
  go_enter Tryz.func135,Tryz.ntmps135
  go_wp2_with fail;go_ret;exact ⟨ret_bool hs.out.symm,Ext.refl _⟩
theorem agree132 (x y:Part) (w:World):Calls Tryz.prog 132 #[.agg #[.string x.name,.int .i64 x.type],.agg #[.string y.name,.int .i64 y.type]] w fun e w'=>e=.returned (.bool (partEq x y))/\Ext w w':=by
 have hs:=dh (show partEq x y=(x.name.toList==y.name.toList) from beq_toListBytes _ _)
 go_enter Tryz.func132,Tryz.ntmps132
 go_wp2;go_ret;exact ⟨ret_bool hs.out.symm,by (repeat (first | exact Ext.refl _ | (refine Ext.trans ?_ (Hid.out (by assumption))) | (refine Ext.trans ?_ (Ext.alloc _ _)) | (refine Ext.trans ?_ (Ext.drew _)) | (refine below_drewN ?_ _)))⟩
theorem equalFunc131 (a:Option Addr) (n c:Nat) (b:Option Addr) (m d:Nat) (xs ys:List Part) (w:World) (hx:Parts w (.slice a n c) xs) (hy:Parts w (.slice b m d) ys) :
  Calls Tryz.prog 131 #[.slice a n c,.slice b m d,.func (.func 132) #[] #[]] w fun e w'=>e=.returned (.bool (sameB partEq xs ys))/\Ext w w':=by
 have hb1:=(SlW.bound hx).2;have hb2:=(SlW.bound hy).2;obtain rfl:=SlW.len hx;obtain rfl:=SlW.len hy;by_cases hl:xs.length=ys.length
 ·have hs1:=dh (show ∀ k,k<xs.length->partEq (nth xs k) (nth ys k)=false->sameB partEq xs ys=false from fun k hk h=>sameB_false hl hk h);have hs2:=dh (show (∀ k,k<xs.length->partEq (nth xs k) (nth ys k)=true)->sameB partEq xs ys=true from fun h=>sameB_true hl h);have Hx:=dh hx; clear hx;have Hy:=dh hy; clear hy;have hle:ys.length=xs.length:=hl.symm;rw [hle];have HL:=dh hl; clear hl hle
  go_enter Tryz.func131,Tryz.ntmps131
  go_wp2;go_loopw [7,8,9,17] (fun _ _ _ i wr=>∃ k:Nat,k<=xs.length/\i=.int .i64 k/\Hid (Ext w wr/\∀ j,j<k->partEq (nth xs j) (nth ys j)=true)) (fun _ _ _ i _=>xs.length-(intOf i).toNat)
  case atStart=>exact ⟨0,Nat.zero_le _,rfl,Ext.refl _,fun j hj=>absurd hj (Nat.not_lt_zero _)⟩
  case round =>
   obtain ⟨k,hk,rfl,hH⟩:=hrel;have HE:=dh hH.out.1;have Hall:=dh hH.out.2;clear hH;by_cases hlt:k<xs.length
   ·have hky:k<ys.length:=by have:=HL.out; omega
    obtain ⟨xb,xo,hxo,hxl,x0,x1,_⟩:=Parts.at (Parts.mono HE.out Hx.out) hlt;obtain ⟨yb,yo,hyo,hyl,y0,y1,_⟩:=Parts.at (Parts.mono HE.out Hy.out) hky;subst hxo hyo;clear hky;go_wp2_with fail;have hEE:Ext wr ((wr.alloc (.cells #[.string (nth xs k).name,.int .i64 (nth xs k).type] 83)).alloc (.cells #[.string (nth ys k).name,.int .i64 (nth ys k).type] 83)):=(Ext.alloc _ _).trans (Ext.alloc _ _)
    
    refine (agree132 _ _ _).mono ?_;rintro e w2 ⟨rfl,hE⟩;have HE2:=dh (HE.out.trans (hEE.trans hE)); clear hE hEE;cases hq:partEq (nth xs k) (nth ys k)
    ·have hr:=dh (hs1.out k hlt hq);go_wp2_with fail;go_ret;exact ⟨ret_bool hr.out.symm,HE2.out⟩
    ·have hr:=dh hq;clear hq;go_wp2_with fail;go_roundw
     case rel =>
      refine ⟨k+1,by omega,by go_num,HE2.out,fun j hj=>?_⟩;by_cases hjk:j=k
      ·rw [hjk]; exact hr.out
      ·exact Hall.out j (by omega)
     case measure=>simp [intOf]; omega
   ·have:k=xs.length:=by omega
    subst this;have hr:=dh (hs2.out Hall.out);go_wp2_with fail;go_ret;exact ⟨ret_bool hr.out.symm,HE.out⟩
 ·have hs:=dh (show sameB partEq xs ys=false from sameB_of_len hl);have hne:((xs.length:Int)==(ys.length:Int))=false:=by rw [beq_eq_false_iff_ne]; omega
  clear hl
  go_enter Tryz.func131,Tryz.ntmps131
  go_wp2_with fail;go_ret;exact ⟨ret_bool hs.out.symm,Ext.refl _⟩
theorem sameMethods134 (x y:Meth) (aa:Option Addr) (al ac:Nat) (ra:Option Addr) (rl rc:Nat) (ba:Option Addr) (bl bc:Nat) (sa:Option Addr) (sl sc:Nat) (w:World)
  (hal:al=x.sig.args.length) (hbl:bl=y.sig.args.length) (ha1:al*8<=140737488351232) (hb1:bl*8<=140737488351232) (hr:Strs w (.slice ra rl rc) x.sig.raises) (hs:Strs w (.slice sa sl sc) y.sig.raises) :
  Calls Tryz.prog 134 #[.agg #[.string x.name,.slice aa al ac,.int .i64 x.sig.result,.slice ra rl rc,.string x.proc],.agg #[.string y.name,.slice ba bl bc,.int .i64 y.sig.result,.slice sa sl sc,.string y.proc]] w fun e w' =>
   e=.returned (.bool (methEq x y))/\Ext w w':=by
 have Heq:=dh (show methEq x y=((x.name.toList==y.name.toList)&&(x.proc.toList==y.proc.toList)&&((al:Int)==(bl:Int))&&(decide (x.sig.result<0)==decide (y.sig.result<0))&&sameB (fun (a b:BA)=>a==b) x.sig.raises y.sig.raises) by
  unfold methEq;rw [beq_toListBytes,beq_toListBytes,hal,hbl]
  congr 3
  rw [Bool.eq_iff_iff]; simp; omega)
 have hE0:=(Ext.alloc w (.cells #[.string x.name,.slice aa al ac,.int .i64 x.sig.result,.slice ra rl rc,.string x.proc] 88)).trans (Ext.alloc (w.alloc (.cells #[.string x.name,.slice aa al ac,.int .i64 x.sig.result,.slice ra rl rc,.string x.proc] 88)) (.cells #[.string y.name,.slice ba bl bc,.int .i64 y.sig.result,.slice sa sl sc,.string y.proc] 88));have Hc:=dh (equal163 ra rl rc sa sl sc x.sig.raises y.sig.raises _ (Strs.mono hE0 hr) (Strs.mono hE0 hs));have HE0:=dh hE0;clear hr hs hal hbl hE0;cases h1:(x.name.toList==y.name.toList)
 ·go_enter Tryz.func134,Tryz.ntmps134
  go_wp2_with fail;go_ret;exact ⟨ret_bool (by rw [Heq.out,h1]; rfl),HE0.out⟩
 cases h2:(x.proc.toList==y.proc.toList)
 ·go_enter Tryz.func134,Tryz.ntmps134
  go_wp2_with fail;go_ret;exact ⟨ret_bool (by rw [Heq.out,h1,h2]; rfl),HE0.out⟩
 cases h3:((al:Int)==(bl:Int))
 ·go_enter Tryz.func134,Tryz.ntmps134
  go_wp2_with fail;go_ret;exact ⟨ret_bool (by rw [Heq.out,h1,h2,h3]; rfl),HE0.out⟩
 cases h4:decide (x.sig.result<0) <;> cases h5:decide (y.sig.result<0)
 ·go_enter Tryz.func134,Tryz.ntmps134
  go_wp2_with fail;refine Hc.out.mono ?_;rintro e w2 ⟨rfl,hE⟩;have HE:=dh hE; clear hE;go_wp2_with fail;go_ret;exact ⟨ret_bool (by rw [Heq.out,h1,h2,h3,h4,h5]; rfl),HE0.out.trans HE.out⟩
 ·go_enter Tryz.func134,Tryz.ntmps134
  go_wp2_with fail;go_ret;exact ⟨ret_bool (by rw [Heq.out,h1,h2,h3,h4,h5]; rfl),HE0.out⟩
 ·go_enter Tryz.func134,Tryz.ntmps134
  go_wp2_with fail;go_ret;exact ⟨ret_bool (by rw [Heq.out,h1,h2,h3,h4,h5]; rfl),HE0.out⟩
 ·go_enter Tryz.func134,Tryz.ntmps134
  go_wp2_with fail;refine Hc.out.mono ?_;rintro e w2 ⟨rfl,hE⟩;have HE:=dh hE; clear hE;go_wp2_with fail;go_ret;exact ⟨ret_bool (by rw [Heq.out,h1,h2,h3,h4,h5]; rfl),HE0.out.trans HE.out⟩
theorem equalFunc133 (a:Option Addr) (n c:Nat) (b:Option Addr) (m d:Nat) (xs ys:List Meth) (w:World) (hx:Meths w (.slice a n c) xs) (hy:Meths w (.slice b m d) ys) :
  Calls Tryz.prog 133 #[.slice a n c,.slice b m d,.func (.func 134) #[] #[]] w fun e w'=>e=.returned (.bool (sameB methEq xs ys))/\Ext w w':=by
 have hb1:=(SlW.bound hx).2;have hb2:=(SlW.bound hy).2;obtain rfl:=SlW.len hx;obtain rfl:=SlW.len hy;by_cases hl:xs.length=ys.length
 ·have hs1:=dh (show ∀ k,k<xs.length->methEq (nth xs k) (nth ys k)=false->sameB methEq xs ys=false from fun k hk h=>sameB_false hl hk h);have hs2:=dh (show (∀ k,k<xs.length->methEq (nth xs k) (nth ys k)=true)->sameB methEq xs ys=true from fun h=>sameB_true hl h);have Hx:=dh hx; clear hx;have Hy:=dh hy; clear hy;have hle:ys.length=xs.length:=hl.symm;rw [hle];have HL:=dh hl; clear hl hle
  go_enter Tryz.func133,Tryz.ntmps133
  go_wp2;go_loopw [7,8,9,17] (fun _ _ _ i wr=>∃ k:Nat,k<=xs.length/\i=.int .i64 k/\Hid (Ext w wr/\∀ j,j<k->methEq (nth xs j) (nth ys j)=true)) (fun _ _ _ i _=>xs.length-(intOf i).toNat)
  case atStart=>exact ⟨0,Nat.zero_le _,rfl,Ext.refl _,fun j hj=>absurd hj (Nat.not_lt_zero _)⟩
  case round =>
   obtain ⟨k,hk,rfl,hH⟩:=hrel;have HE:=dh hH.out.1;have Hall:=dh hH.out.2;clear hH;by_cases hlt:k<xs.length
   ·have hky:k<ys.length:=by have:=HL.out; omega
    obtain ⟨xb,xo,xaa,xal,xac,xra,xrl,xrc,hxo,hxl,x0,x1,x2,x3,x4,hxa,hxr,_⟩:=Meths.at (Meths.mono HE.out Hx.out) hlt;obtain ⟨yb,yo,yaa,yal,yac,yra,yrl,yrc,hyo,hyl,y0,y1,y2,y3,y4,hya,hyr,_⟩:=Meths.at (Meths.mono HE.out Hy.out) hky;subst hxo hyo;clear hky;go_wp2_with fail;have hEE:Ext wr ((wr.alloc (.cells #[.string (nth xs k).name,.slice xaa xal xac,.int .i64 (nth xs k).sig.result,.slice xra xrl xrc,.string (nth xs k).proc] 88)).alloc (.cells #[.string (nth ys k).name,.slice yaa yal yac,.int .i64 (nth ys k).sig.result,.slice yra yrl yrc,.string (nth ys k).proc] 88)):=(Ext.alloc _ _).trans (Ext.alloc _ _);have hxb:=(SlW.bound hxa).2;have hyb:=(SlW.bound hya).2;refine (sameMethods134 _ _ xaa xal xac xra xrl xrc yaa yal yac yra yrl yrc _ (SlW.len hxa) (SlW.len hya) (by omega) (by omega) (Strs.mono hEE hxr) (Strs.mono hEE hyr)).mono ?_;rintro e w2 ⟨rfl,hE⟩;have HE2:=dh (HE.out.trans (hEE.trans hE)); clear hE hEE;cases hq:methEq (nth xs k) (nth ys k)
    ·have hr:=dh (hs1.out k hlt hq);go_wp2_with fail;go_ret;exact ⟨ret_bool hr.out.symm,HE2.out⟩
    ·have hr:=dh hq;clear hq;go_wp2_with fail;go_roundw
     case rel =>
      refine ⟨k+1,by omega,by go_num,HE2.out,fun j hj=>?_⟩;by_cases hjk:j=k
      ·rw [hjk]; exact hr.out
      ·exact Hall.out j (by omega)
     case measure=>simp [intOf]; omega
   ·have:k=xs.length:=by omega
    subst this;have hr:=dh (hs2.out Hall.out);go_wp2_with fail;go_ret;exact ⟨ret_bool hr.out.symm,HE.out⟩
 ·have hs:=dh (show sameB methEq xs ys=false from sameB_of_len hl);have hne:((xs.length:Int)==(ys.length:Int))=false:=by rw [beq_eq_false_iff_ne]; omega
  clear hl
  go_enter Tryz.func133,Tryz.ntmps133
  go_wp2_with fail;go_ret;exact ⟨ret_bool hs.out.symm,Ext.refl _⟩
end
section
open Go.RowKit Go.Proofs
theorem ext_of_drew {W Y:World} (h:Ext W Y):Ext W.drew Y:=⟨h.os,h.tape,h.output,h.size,h.block⟩
def plainEq (x y:Ty):Bool:=x.kind==y.kind&&x.low==y.low&&x.high==y.high&&x.branded==y.branded&&x.brand==y.brand&&x.opq==y.opq
def agreeB (x y:Ty):Bool:=plainEq x y&&sameB partEq x.parts y.parts&&sameB methEq x.methods y.methods&&sameB overEq x.overs y.overs
def tyArr (t:Ty) (pa:Option Addr) (pl pc:Nat) (ma:Option Addr) (ml mc:Nat) (oa:Option Addr) (ol oc:Nat):Array Value :=
 #[.int .u8 t.kind,.int .i64 t.low,.int .i64 t.high,.bool t.branded,.string t.brand,.string t.opq,.int .i64 t.super,.slice pa pl pc,.slice ma ml mc,.slice oa ol oc]
theorem heap_alloc2 (w:World) (A B:Obj):((w.alloc A).alloc B).heap[w.heap.size+1]? = some B:=by
 have:=heap_alloc_new (w.alloc A) B
 rwa [World.size_alloc] at this
theorem plain_res (x y:Ty) (w:World) :
  (if x.kind=y.kind then
   if x.low=y.low then
    if x.high=y.high then
     if x.branded=y.branded then
      if ByteArray.toList x.brand=ByteArray.toList y.brand then
       if ByteArray.toList x.opq=ByteArray.toList y.opq then Result.ok (Next.value (Value.bool true)) w else Result.ok (Next.value (Value.bool false)) w
      else Result.ok (Next.value (Value.bool false)) w
     else Result.ok (Next.value (Value.bool false)) w
    else Result.ok (Next.value (Value.bool false)) w
   else Result.ok (Next.value (Value.bool false)) w
  else Result.ok (Next.value (Value.bool false)) w)=Result.ok (Next.value (Value.bool (plainEq x y))) w:=by
 have he:plainEq x y=(x.kind==y.kind&&x.low==y.low&&x.high==y.high&&x.branded==y.branded&&decide (x.brand.toList=y.brand.toList)&&decide (x.opq.toList=y.opq.toList)):=by
  unfold plainEq; rw [ba_eq_list,ba_eq_list]
 repeat' split
 all_goals rw [he]; simp [*]
structure TyBox (w:World) (b:Nat) (t:Ty) (pa:Option Addr) (pl pc:Nat) (ma:Option Addr) (ml mc:Nat) (oa:Option Addr) (ol oc:Nat):Prop where
 c0:w.cell? ⟨b,0,none⟩=some (.int .u8 t.kind)
 c1:w.cell? ⟨b,1,none⟩=some (.int .i64 t.low)
 c2:w.cell? ⟨b,2,none⟩=some (.int .i64 t.high)
 c3:w.cell? ⟨b,3,none⟩=some (.bool t.branded)
 c4:w.cell? ⟨b,4,none⟩=some (.string t.brand)
 c5:w.cell? ⟨b,5,none⟩=some (.string t.opq)
 c6:w.cell? ⟨b,6,none⟩=some (.int .i64 t.super)
 c7:w.cell? ⟨b,7,none⟩=some (.slice pa pl pc)
 c8:w.cell? ⟨b,8,none⟩=some (.slice ma ml mc)
 c9:w.cell? ⟨b,9,none⟩=some (.slice oa ol oc)
theorem tyBox_of {w:World} {b:Nat} {t:Ty} {pa:Option Addr} {pl pc:Nat} {ma:Option Addr} {ml mc:Nat} {oa:Option Addr} {ol oc:Nat} (h:w.heap[b]? = some (Obj.cells (tyArr t pa pl pc ma ml mc oa ol oc) 50 (0,0))):TyBox w b t pa pl pc ma ml mc oa ol oc :=
 ⟨cell_of_heap h rfl,cell_of_heap h rfl,cell_of_heap h rfl,cell_of_heap h rfl,cell_of_heap h rfl,cell_of_heap h rfl,cell_of_heap h rfl,cell_of_heap h rfl,cell_of_heap h rfl,cell_of_heap h rfl⟩
theorem agree101 (a:Option Addr) (n c:Nat) (g:List Ty) (i j:Nat) (w:World) (hg:Graph w (.slice a n c) g) (hi:i<n) (hj:j<n) :
  Calls Tryz.prog 101 #[.agg #[.slice a n c],.int .i64 i,.int .i64 j] w fun e w'=>e=.returned (.bool (agreeB (nth g i) (nth g j)))/\Ext w w':=by
 have hb:=(SlW.bound hg).2;obtain rfl:=SlW.len hg;obtain ⟨xb,xo,pa,pl,pc,ma,ml,mc,oa,ol,oc,hxo,hxl,hx⟩:=Graph.at hg hi;obtain ⟨yb,yo,pa',pl',pc',ma',ml',mc',oa',ol',oc',hyo,hyl,hy⟩:=Graph.at hg hj;have hoo:some (⟨xb,xo,none⟩:Addr)=some ⟨yb,yo,none⟩:=hxo.symm.trans hyo;cases hoo;subst hxo;clear hyo
 go_enter Tryz.func101,Tryz.ntmps101
 go_upto_region 1 with (fail);have hE0:=Ext.alloc w (.cells #[.slice (some ⟨xb,xo,none⟩) g.length c] 118);obtain ⟨W,hW⟩:∃ W:World,W=w.alloc (.cells #[.slice (some ⟨xb,xo,none⟩) g.length c] 118):=⟨_,rfl⟩;rw [<- hW] at hE0 ⊢;have hbx:W.cell? ⟨w.heap.size,0,none⟩=some (.slice (some ⟨xb,xo,none⟩) g.length c):=by rw [hW]; exact cell_new1 _ _ _
 clear hW;have c0:=hE0.cell hx.c0;have c1:=hE0.cell hx.c1;have c2:=hE0.cell hx.c2;have c3:=hE0.cell hx.c3;have c4:=hE0.cell hx.c4;have c5:=hE0.cell hx.c5;have c6:=hE0.cell hx.c6;have c7:=hE0.cell hx.c7;have c8:=hE0.cell hx.c8;have c9:=hE0.cell hx.c9;have d0:=hE0.cell hy.c0;have d1:=hE0.cell hy.c1;have d2:=hE0.cell hy.c2;have d3:=hE0.cell hy.c3;have d4:=hE0.cell hy.c4;have d5:=hE0.cell hy.c5;have d6:=hE0.cell hy.c6;have d7:=hE0.cell hy.c7;have d8:=hE0.cell hy.c8;have d9:=hE0.cell hy.c9;have Hx:=dh hx; clear hx;have Hy:=dh hy; clear hy;go_cut [7,8] (fun v7 v8 wx=>∃ b7 b8,v7=.pointer (some ⟨b7,0,none⟩)/\v8=.pointer (some ⟨b8,0,none⟩)/\Hid (Ext W wx/\wx.heap[b7]? = some (Obj.cells (tyArr (nth g i) pa pl pc ma ml mc oa ol oc) 50 (0,0))/\wx.heap[b8]? = some (Obj.cells (tyArr (nth g j) pa' pl' pc' ma' ml' mc' oa' ol' oc') 50 (0,0))))
 case first =>
  refine Zr 99 ?_;change wpE _ _ _ _ _ _ _ _ (World.drew _);refine Zg 0 ?_;refine Zc 1 hbx ?_;refine Zg 2 ?_;refine Zg 3 ?_;refine Zf 4 rfl (fun w9 hE=>by have c0E:=hE.cell c0; have c1E:=hE.cell c1; have c2E:=hE.cell c2; have c3E:=hE.cell c3; have c4E:=hE.cell c4; have c5E:=hE.cell c5; have c6E:=hE.cell c6; have c7E:=hE.cell c7; have c8E:=hE.cell c8; have c9E:=hE.cell c9; clear hE; first | (go_simp; done) | (go_simp; with_reducible rfl)) ?_;refine Zg 5 ?_;refine Zc 6 hbx ?_;refine Zg 7 ?_;refine Zg 8 ?_;refine Zf 9 rfl (fun w9 hE=>by have d0E:=hE.cell d0; have d1E:=hE.cell d1; have d2E:=hE.cell d2; have d3E:=hE.cell d3; have d4E:=hE.cell d4; have d5E:=hE.cell d5; have d6E:=hE.cell d6; have d7E:=hE.cell d7; have d8E:=hE.cell d8; have d9E:=hE.cell d9; clear hE; first | (go_simp; done) | (go_simp; with_reducible rfl)) ?_;refine ⟨by kernel_rfl,?_⟩;refine wpS_two (i:=10) (j:=11) rfl rfl (by kernel_rfl) (fun K hK=>?_) (fun K hK=>?_)
  ·go_simp;refine hK _ _ (ext_of_drew ((Ext.alloc _ _).trans (Ext.drew _))) ?_; clear hK K;refine wpS_only (i:=11) rfl (by kernel_rfl) (fun K hK=>?_);go_simp;refine hK _ _ (ext_of_drew (((Ext.alloc _ _).trans (Ext.alloc _ _)).trans (Ext.drew _))) ?_; clear hK K;refine wpS_only (i:=12) rfl (by kernel_rfl) (fun K hK=>?_);go_simp;refine hK _ _ (ext_of_drew (((Ext.alloc _ _).trans (Ext.alloc _ _)).trans (Ext.drew _))) ?_; clear hK K;refine wpS_only (i:=13) rfl (by kernel_rfl) (fun K hK=>?_);go_simp;refine hK _ _ (ext_of_drew (((Ext.alloc _ _).trans (Ext.alloc _ _)).trans (Ext.drew _))) ?_; clear hK K;refine wpS_done (by kernel_rfl) ?_;go_wp2_with fail;go_meet;exact ⟨_,_,rfl,rfl,((Ext.alloc _ _).trans (Ext.alloc _ _)).trans (Ext.drew _),(Ext.alloc _ _).block _ (by simp) |>.trans (heap_alloc_new _ _),heap_alloc2 _ _ _⟩
  ·go_simp;refine hK _ _ (ext_of_drew ((Ext.alloc _ _).trans (Ext.drew _))) ?_; clear hK K;refine wpS_only (i:=10) rfl (by kernel_rfl) (fun K hK=>?_);go_simp;refine hK _ _ (ext_of_drew (((Ext.alloc _ _).trans (Ext.alloc _ _)).trans (Ext.drew _))) ?_; clear hK K;refine wpS_only (i:=12) rfl (by kernel_rfl) (fun K hK=>?_);go_simp;refine hK _ _ (ext_of_drew (((Ext.alloc _ _).trans (Ext.alloc _ _)).trans (Ext.drew _))) ?_; clear hK K;refine wpS_only (i:=13) rfl (by kernel_rfl) (fun K hK=>?_);go_simp;refine hK _ _ (ext_of_drew (((Ext.alloc _ _).trans (Ext.alloc _ _)).trans (Ext.drew _))) ?_; clear hK K;refine wpS_done (by kernel_rfl) ?_;go_wp2_with fail;go_meet;exact ⟨_,_,rfl,rfl,((Ext.alloc _ _).trans (Ext.alloc _ _)).trans (Ext.drew _),heap_alloc2 _ _ _,(Ext.alloc _ _).block _ (by simp) |>.trans (heap_alloc_new _ _)⟩
 case rest =>
  obtain ⟨b7,b8,rfl,rfl,hH⟩:=hcut;obtain ⟨hE,h7,h8⟩:=hH.out;clear hH;clear c0 c1 c2 c3 c4 c5 c6 c7 c8 c9 d0 d1 d2 d3 d4 d5 d6 d7 d8 d9 hbx;obtain ⟨c0,c1,c2,c3,c4,c5,c6,c7,c8,c9⟩:=tyBox_of h7;obtain ⟨d0,d1,d2,d3,d4,d5,d6,d7,d8,d9⟩:=tyBox_of h8;have hEw:=hE0.trans hE;have hp1:=Parts.mono hEw Hx.out.ps;have hp2:=Parts.mono hEw Hy.out.ps;have HEw:=dh hEw;clear h7 h8 hE hE0 hEw hg;go_wp2_with fail;refine (equalFunc131 pa pl pc pa' pl' pc' _ _ _ hp1 hp2).mono ?_;rintro e w2 ⟨rfl,hE⟩;have c0:=hE.cell c0;have c1:=hE.cell c1;have c2:=hE.cell c2;have c3:=hE.cell c3;have c4:=hE.cell c4;have c5:=hE.cell c5;have c6:=hE.cell c6;have c7:=hE.cell c7;have c8:=hE.cell c8;have c9:=hE.cell c9;have d0:=hE.cell d0;have d1:=hE.cell d1;have d2:=hE.cell d2;have d3:=hE.cell d3;have d4:=hE.cell d4;have d5:=hE.cell d5;have d6:=hE.cell d6;have d7:=hE.cell d7;have d8:=hE.cell d8;have d9:=hE.cell d9;have HE2:=dh (HEw.out.trans hE);clear hE hp1 hp2;go_upto_region 3 with (fail);have hm1:=Meths.mono HE2.out Hx.out.ms;have hm2:=Meths.mono HE2.out Hy.out.ms;have ho1:=Overs.mono HE2.out Hx.out.os;have ho2:=Overs.mono HE2.out Hy.out.os;clear Hx Hy HEw;have Hsp:=dh (show agreeB (nth g i) (nth g j)=(plainEq (nth g i) (nth g j)&&sameB partEq (nth g i).parts (nth g j).parts&&sameB methEq (nth g i).methods (nth g j).methods&&sameB overEq (nth g i).overs (nth g j).overs) from rfl);refine Zr 99 ?_;change wpE _ _ _ _ _ _ _ _ (World.drew _);refine Zf 0 rfl (fun w9 hE=>by have c0E:=hE.cell c0; have c1E:=hE.cell c1; have c2E:=hE.cell c2; have c3E:=hE.cell c3; have c4E:=hE.cell c4; have c5E:=hE.cell c5; have c6E:=hE.cell c6; have c7E:=hE.cell c7; have c8E:=hE.cell c8; have c9E:=hE.cell c9; clear hE; first | (go_simp; done) | (go_simp; with_reducible rfl)) ?_;refine Zf 2 rfl (fun w9 hE=>by have d0E:=hE.cell d0; have d1E:=hE.cell d1; have d2E:=hE.cell d2; have d3E:=hE.cell d3; have d4E:=hE.cell d4; have d5E:=hE.cell d5; have d6E:=hE.cell d6; have d7E:=hE.cell d7; have d8E:=hE.cell d8; have d9E:=hE.cell d9; clear hE; first | (go_simp; done) | (go_simp; with_reducible rfl)) ?_;clear c0 c1 c2 c3 c4 c5 c6 c7 d0 d1 d2 d3 d4 d5 d6 d7;refine Zo 1 fun K hK=>?_;go_simp;refine (plainOf109 (nth g i) (.slice pa pl pc) (.slice ma ml mc) (.slice oa ol oc) _).mono ?_;rintro e w3 ⟨rfl,hE⟩;have hE':=(Ext.drew _).trans hE;have c8:=hE'.cell c8;have c9:=hE'.cell c9;have d8:=hE'.cell d8;have d9:=hE'.cell d9;have hm1:=Meths.mono hE' hm1;have hm2:=Meths.mono hE' hm2;have ho1:=Overs.mono hE' ho1;have ho2:=Overs.mono hE' ho2;have HE3:=dh (HE2.out.trans hE');refine hK _ _ (hE) ?_; clear hK K;clear hE hE';refine Zo 3 fun K hK=>?_;go_simp;refine (plainOf109 (nth g j) (.slice pa' pl' pc') (.slice ma' ml' mc') (.slice oa' ol' oc') _).mono ?_;rintro e w4 ⟨rfl,hE⟩;have c8:=hE.cell c8;have c9:=hE.cell c9;have d8:=hE.cell d8;have d9:=hE.cell d9;have hm1:=Meths.mono hE hm1;have hm2:=Meths.mono hE hm2;have ho1:=Overs.mono hE ho1;have ho2:=Overs.mono hE ho2;have HE4:=dh (HE3.out.trans hE);refine hK _ _ (hE) ?_; clear hK K;clear hE;refine Zo 4 fun K hK=>?_;go_simp;rw [plain_res];refine hK _ _ (Ext.refl _) ?_; clear hK K;cases hpe:plainEq (nth g i) (nth g j)
  ·have hr:=dh (show false=agreeB (nth g i) (nth g j) by rw [Hsp.out,hpe]; rfl);clear hpe Hsp;refine Zg 5 ?_;refine Zs 6 ?_;refine Zg 7 ?_;refine Zg 8 ?_;refine Zs 9 ?_;refine Zs 10 ?_;refine Zs 11 ?_;refine Zs 12 ?_;refine Zs 13 ?_;refine Zg 14 ?_;refine Zg 15 ?_;refine Zs 16 ?_;refine Zs 17 ?_;refine Zs 18 ?_;refine Zs 19 ?_;refine Zs 20 ?_;refine Zg 21 ?_;refine Zg 22 ?_;refine Zd ?_;go_wp2_with fail;go_ret;exact ⟨ret_bool hr.out,HE4.out⟩
  cases hpp:sameB partEq (nth g i).parts (nth g j).parts
  ·have hr:=dh (show false=agreeB (nth g i) (nth g j) by rw [Hsp.out,hpe,hpp]; rfl);clear hpe hpp Hsp;refine Zg 5 ?_;refine Zg 6 ?_;refine Zg 7 ?_;refine Zg 8 ?_;refine Zs 9 ?_;refine Zs 10 ?_;refine Zs 11 ?_;refine Zs 12 ?_;refine Zs 13 ?_;refine Zg 14 ?_;refine Zg 15 ?_;refine Zs 16 ?_;refine Zs 17 ?_;refine Zs 18 ?_;refine Zs 19 ?_;refine Zs 20 ?_;refine Zg 21 ?_;refine Zg 22 ?_;refine Zd ?_;go_wp2_with fail;go_ret;exact ⟨ret_bool hr.out,HE4.out⟩
  have Hpe:=dh hpe; clear hpe;have Hpp:=dh hpp; clear hpp;refine Zg 5 ?_;refine Zg 6 ?_;refine Zg 7 ?_;refine Zg 8 ?_;refine Zg 9 ?_;refine Zc 10 c8 ?_;refine Zg 11 ?_;refine Zc 12 d8 ?_;refine Zo 13 fun K hK=>?_;go_simp;refine (equalFunc133 ma ml mc ma' ml' mc' _ _ _ hm1 hm2).mono ?_;rintro e w5 ⟨rfl,hE⟩;have c9:=hE.cell c9;have d9:=hE.cell d9;have ho1:=Overs.mono hE ho1;have ho2:=Overs.mono hE ho2;have HE5:=dh (HE4.out.trans hE);refine hK _ _ (hE) ?_; clear hK K;clear hE;cases hmm:sameB methEq (nth g i).methods (nth g j).methods
  ·have hr:=dh (show false=agreeB (nth g i) (nth g j) by rw [Hsp.out,Hpe.out,Hpp.out,hmm]; rfl);clear hmm Hsp;refine Zg 14 ?_;refine Zg 15 ?_;refine Zs 16 ?_;refine Zs 17 ?_;refine Zs 18 ?_;refine Zs 19 ?_;refine Zs 20 ?_;refine Zg 21 ?_;refine Zg 22 ?_;refine Zd ?_;go_wp2_with fail;go_ret;exact ⟨ret_bool hr.out,HE5.out⟩
  have hr:=dh (show sameB overEq (nth g i).overs (nth g j).overs=agreeB (nth g i) (nth g j) by rw [Hsp.out,Hpe.out,Hpp.out,hmm]; rfl);clear hmm Hsp;refine Zg 14 ?_;refine Zg 15 ?_;refine Zg 16 ?_;refine Zc 17 c9 ?_;refine Zg 18 ?_;refine Zc 19 d9 ?_;refine Zo 20 fun K hK=>?_;go_simp;refine (equal135 oa ol oc oa' ol' oc' _ _ _ ho1 ho2).mono ?_;rintro e w6 ⟨rfl,hE⟩;have HE6:=dh (HE5.out.trans hE);refine hK _ _ (hE) ?_; clear hK K;clear hE;refine Zg 21 ?_;refine Zg 22 ?_;refine Zd ?_;go_wp2_with fail;go_ret;exact ⟨ret_bool hr.out,HE6.out⟩
end
end Go.Proofs.YtjffkeoajkhbmaaGreat
