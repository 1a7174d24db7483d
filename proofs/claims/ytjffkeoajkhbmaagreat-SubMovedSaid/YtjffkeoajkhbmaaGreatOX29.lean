/- sub.Line. The names that Method looks through. The names that Field looks through. sub.first: the first type of a line that has something with a name. sub.Field and sub.Method. Questions to an environment that In has made, each with its answer. The law's example: its revelations. What lies below what, in plain Lean: steps told one by one; words stay words; types that are the same; more revelations. The law's permutation. -/
import Derived.StillTactics
import Derived.Test.YtjffkeoajkhbmaaGreatOX10
import Derived.Test.YtjffkeoajkhbmaaGreatOX12
import Derived.Test.YtjffkeoajkhbmaaGreatOX14
import Derived.Test.YtjffkeoajkhbmaaGreatOX24
import Derived.Test.YtjffkeoajkhbmaaGreatOX27
import Derived.Test.YtjffkeoajkhbmaaGreatOX28
namespace Go.Proofs.YtjffkeoajkhbmaaGreat
set_option linter.unusedSimpArgs false
set_option linter.unusedVariables false
set_option maxRecDepth 100000
set_option maxHeartbeats 8000000
section
open Go.RowKit Go.Proofs Go.Shelf
theorem line26 (vb:Nat) (g:List Ty) (C:Nat->Nat) (rs:List Reveal) (S:List Nat) (gv cv rv av:Value) (mb:Nat) (mm:List (BA × Value)) (w:World) (hv:EnvW w vb g C rs S gv cv rv av) (hby:ByAt w vb rs mb mm)
  (hn:g.length<=400) (hr60:rs.length<=60) (hr:∀ t,t<g.length->rightB g (nth g t)=true) (hrt:∀ i,i<rs.length->0<=(nth rs i).type/\(nth rs i).type<g.length) (a:Int)
  (hx:-9223372036854775808<=a/\a<=9223372036854775807) :
  Calls Tryz.prog 26 #[.pointer (some ⟨vb,0,none⟩),.int .i64 a] w fun e w' =>
   (askedR g.length [a]=0/\∃ v,e=.returned (.tuple #[v,.int .i64 0])/\Ints w' v (numsOf (lineL g rs a.toNat))/\Ext w w'/\NewRow w w' v (numsOf (lineL g rs a.toNat))) \/
   (askedR g.length [a]=1/\e=.returned (.tuple #[.slice none 0 0,.int .i64 1])/\Ext w w'):=by
 have hE0:=Ext.alloc w (.cells #[.int .i64 a] 3);have hl:=ints_one w a hx;obtain ⟨ga,gc,rfl,_⟩:=id hv.gr;have hcall:=dh (asked47 vb ga g.length gc hn _ 1 1 [a] _ (hE0.cell hv.c0) hl);have HE0:=dh hE0; clear hE0 hl;rcases askedR_cases g.length [a] with ⟨h0,hin⟩ | ⟨h0,_⟩
 ·have H0:=dh h0;rw [h0] at hcall;have h1:=hin a (by simp);obtain ⟨an,rfl⟩:∃ an:Nat,a=an:=⟨a.toNat,(Int.toNat_of_nonneg h1.1).symm⟩;have hal:an<g.length:=by omega
  have Hl:=dh (fun W (hE:Ext w W)=>line59 vb g C rs S _ cv rv av mb mm W (hv.mono hE) (hby.mono hE) hn hr60 hr hrt an hal);clear h0 hin h1 hv hby hr hrt
  go_enter Tryz.func26,Tryz.ntmps26
  go_wp2_with fail;refine hcall.out.mono ?_;rintro e w1 ⟨rfl,hE⟩;have HE:=dh (HE0.out.trans hE); clear hE;go_wp2_with fail;refine (Hl.out w1 HE.out).mono ?_;rintro e w2 ⟨v,rfl,hE2,hi,-,hnw⟩;have Hnw:=dh (NewRow.pre HE.out hnw);have HE2:=dh (HE.out.trans hE2);have HI:=dh hi;clear hE2 hi hnw;go_wp2_with fail;go_ret2;exact Or.inl ⟨H0.out,v,rfl,by simpa [numsOf] using HI.out,HE2.out,Hnw.out⟩
 ·have H0:=dh h0;rw [h0] at hcall;clear h0 hv hby hr hrt
  go_enter Tryz.func26,Tryz.ntmps26
  go_wp2_with fail;refine hcall.out.mono ?_;rintro e w1 ⟨rfl,hE⟩;have HE:=dh (HE0.out.trans hE); clear hE;go_wp2_with fail;go_ret2;exact Or.inr ⟨H0.out,rfl,HE.out⟩
end
section
open Go.RowKit Go.Proofs Go.Shelf
end
section
open Go.RowKit Go.Proofs Go.Shelf
def fieldN (x:Ty):List BA:=if x.kind=10\/x.kind=12 then x.parts.map (·.name) else []
theorem names68 (x:Ty) (pv ov:Value) (hpv:∃ a n c,pv=.slice a n c) (hov:∃ a n c,ov=.slice a n c) (ma:Option Addr) (ml mc:Nat) (w:World) (hm:Parts w (.slice ma ml mc) x.parts) (h60:ml<=1000) :
  Calls Tryz.prog 68 #[.agg #[.int .u8 x.kind,.int .i64 x.low,.int .i64 x.high,.bool x.branded,.string x.brand,.string x.opq,.int .i64 x.super,.slice ma ml mc,pv,ov]] w fun e w'=>∃ v,e=.returned v/\Ext w w'/\Strs w' v (fieldN x):=by
 obtain ⟨p1,p2,p3,rfl⟩:=hpv;obtain ⟨o1,o2,o3,rfl⟩:=hov;obtain ⟨i0,hi,hz0,hz1,hz2⟩:=info_parts info9;have hb:=(SlW.bound hm).2;obtain rfl:=SlW.len hm;have Hm:=dh hm;clear hm;obtain ⟨kd,hkd⟩:∃ k,k=x.kind:=⟨_,rfl⟩;rw [<- hkd];cases h10:(kd==10)
 ·cases h12:(kd==12)
  ·have Hres:=dh (show fieldN x=[] by unfold fieldN; rw [if_neg]; rw [<- hkd]; simp only [beq_eq_false_iff_ne,ne_eq] at h10 h12; omega);clear hkd
   go_enter Tryz.func68,Tryz.ntmps68
   go_upto_region 3 with (fail);obtain ⟨W1,hW1⟩:∃ W1:World,W1=w.alloc (.cells #[.int .u8 kd,.int .i64 x.low,.int .i64 x.high,.bool x.branded,.string x.brand,.string x.opq,.int .i64 x.super,.slice ma x.parts.length mc,.slice p1 p2 p3,.slice o1 o2 o3] 50):=⟨_,rfl⟩;rw [<- hW1];have HE1:=dh (show Ext w W1 by rw [hW1]; exact Ext.alloc _ _);have hcell:W1.cell? ⟨w.heap.size,0,none⟩=some (.int .u8 kd):=by rw [hW1]; exact row_cell (heap_alloc_new _ _) rfl
   have Hw:=dh (show ∀ (W0:World) (W:World),Ext W1 W->W.cell? ⟨w.heap.size,0,none⟩=some (.int .u8 kd) from fun _ W hE=>hE.cell hcell);clear hW1 hcell;go_loopw [3,5,9] (fun v _ i wr=>∃ k:Nat,k<=x.parts.length/\i=.int .i64 k/\v=.slice none 0 0/\Hid (Ext W1 wr)) (fun _ _ i _=>x.parts.length-(intOf i).toNat)
   case atStart=>exact ⟨0,Nat.zero_le _,rfl,rfl,dh (Ext.refl _)⟩
   case round =>
    obtain ⟨k,hk,rfl,rfl,hH⟩:=hrel;have hE:=hH.out;clear hH;by_cases hlt:k<x.parts.length
    ·obtain ⟨b,off,rfl,hbl,e0,e1,-⟩:=Parts.at (Parts.mono (HE1.out.trans hE) Hm.out) hlt;have HE:=dh hE;have z0:=Hw.out W1 wr HE.out;have z1:=cell_lt z0;simp only at z1;clear hE;go_wp2_with fail;go_roundw
     case rel=>exact ⟨k+1,by omega,by go_num,rfl,dh (HE.out.trans (Ext.alloc _ _))⟩
     case measure=>simp [intOf]; omega
    ·have HE:=dh (HE1.out.trans hE);clear hE;go_wp2_with fail;go_ret;exact ⟨_,rfl,HE.out,by rw [Hres.out]; exact ⟨none,0,rfl,by simp,by simp,fun i x hx=>by simp at hx⟩⟩
  ·have Hres:=dh (show fieldN x=x.parts.map (·.name) by unfold fieldN; rw [if_pos]; rw [<- hkd]; exact Or.inr (by simpa using h12));clear hkd
   go_enter Tryz.func68,Tryz.ntmps68
   go_upto_region 3 with (fail);obtain ⟨W1,hW1⟩:∃ W1:World,W1=w.alloc (.cells #[.int .u8 kd,.int .i64 x.low,.int .i64 x.high,.bool x.branded,.string x.brand,.string x.opq,.int .i64 x.super,.slice ma x.parts.length mc,.slice p1 p2 p3,.slice o1 o2 o3] 50):=⟨_,rfl⟩;rw [<- hW1];have HE1:=dh (show Ext w W1 by rw [hW1]; exact Ext.alloc _ _);have hcell:W1.cell? ⟨w.heap.size,0,none⟩=some (.int .u8 kd):=by rw [hW1]; exact row_cell (heap_alloc_new _ _) rfl
   have Hw:=dh (show ∀ (W0:World) (W:World),Ext W1 W->W.cell? ⟨w.heap.size,0,none⟩=some (.int .u8 kd) from fun _ W hE=>hE.cell hcell);clear hW1 hcell;go_loopw [3,5,9] (fun v _ i wr=>∃ k:Nat,k<=x.parts.length/\i=.int .i64 k/\(∃ a c,v=.slice a k c)/\Hid (Ext W1 wr/\wr.ownsRow W1.heap.size 9 1 v k ((List.range k).map fun j=>Value.string (nth x.parts j).name))) (fun _ _ i _=>x.parts.length-(intOf i).toNat)
   case atStart=>exact ⟨0,Nat.zero_le _,rfl,⟨_,_,rfl⟩,dh ⟨Ext.refl _,World.ownsRow_nil _ _ _ _⟩⟩
   case round =>
    obtain ⟨k,hk,rfl,⟨va,vc,rfl⟩,hH⟩:=hrel;obtain ⟨hE,hown⟩:=hH.out;clear hH;by_cases hlt:k<x.parts.length
    ·obtain ⟨b,off,rfl,hbl,e0,e1,-⟩:=Parts.at (Parts.mono (HE1.out.trans hE) Hm.out) hlt;obtain ⟨X,hX⟩:∃ X:Obj,X=.cells #[.string (nth x.parts k).name,.int .i64 (nth x.parts k).type] 83:=⟨_,rfl⟩;obtain ⟨Y,hY⟩:∃ Y:Obj,Y=.cells #[.string (nth x.parts k).name] 9:=⟨_,rfl⟩;have hEX:Ext wr ((wr.alloc X).alloc Y):=(Ext.alloc _ _).trans (Ext.alloc _ _);have hrow:=owns_ext hown hEX;have hsz:=hE.size;have hw:W1.heap.size<=((wr.alloc X).alloc Y).heap.size:=Nat.le_trans hsz hEX.size;have hnew:=cell_one_new (wr.alloc X) (.string (nth x.parts k).name) 9;rw [<- hY] at hnew;rw [hX,hY] at hrow hw hnew;have HE:=dh hE;have Hown:=dh hown;clear hown hE hX hY hEX X Y;rw [World.size_alloc] at hnew;have z0:=Hw.out W1 wr HE.out;have z1:=cell_lt z0;simp only at z1;go_wp2_with (at_builtin; refine wpList_append_own _ rfl (.tmp 21) (.tmp 24) 84 rfl W1.heap.size 9 i0 (.string ⟨#[]⟩) 1 16 Tryz.underlying84 hi hz0 hz1 hz2 rfl (by decide) _ _ _ rfl hrow ⟨wr.heap.size+1,0,none⟩ 1 1 [.string (nth x.parts k).name] rfl rfl hnew (by simp [Value.oneCell']) (by unfold maxLen; omega) (by omega) hw ?_; intro v9 W9 hown9 hgrow9 _; have HX:=dh (below_grown (HE.out.trans (Ext.alloc _ _)) (by rw [World.size_alloc]; omega) (owns_ext Hown.out (Ext.alloc _ _)) hgrow9); obtain ⟨a9,c9,rfl⟩:=owns_slice hown9; have HO:=dh hown9; clear hown9 hgrow9);have hown':=HO.out;rw [<- range_snoc (fun j=>Value.string (nth x.parts j).name) k] at hown';go_roundw
     case rel=>exact ⟨k+1,by omega,by go_num,⟨_,_,rfl⟩,dh ⟨HX.out,hown'⟩⟩
     case measure=>simp [intOf]; omega
    ·have hkl:k=x.parts.length:=by omega
     subst hkl;have hE0:=HE1.out.trans hE;rw [names_eq] at hown;have hs:=owns_strs hown (by unfold maxBytes; omega) (fun s hs=>by
      obtain ⟨y,hy,rfl⟩:=List.mem_map.1 hs;obtain ⟨i,hi,rfl⟩:=mem_nth hy;obtain ⟨b,off,_,_,_,_,h,_⟩:=Parts.at Hm.out hi;exact h)
     have HS:=dh hs;have HE:=dh hE0;clear hE hown hs hE0;go_wp2_with fail;go_ret;exact ⟨_,rfl,HE.out,by rw [Hres.out]; exact HS.out⟩
 ·have Hres:=dh (show fieldN x=x.parts.map (·.name) by unfold fieldN; rw [if_pos]; rw [<- hkd]; exact Or.inl (by simpa using h10));clear hkd
  go_enter Tryz.func68,Tryz.ntmps68
  go_upto_region 3 with (fail);obtain ⟨W1,hW1⟩:∃ W1:World,W1=w.alloc (.cells #[.int .u8 kd,.int .i64 x.low,.int .i64 x.high,.bool x.branded,.string x.brand,.string x.opq,.int .i64 x.super,.slice ma x.parts.length mc,.slice p1 p2 p3,.slice o1 o2 o3] 50):=⟨_,rfl⟩;rw [<- hW1];have HE1:=dh (show Ext w W1 by rw [hW1]; exact Ext.alloc _ _);have hcell:W1.cell? ⟨w.heap.size,0,none⟩=some (.int .u8 kd):=by rw [hW1]; exact row_cell (heap_alloc_new _ _) rfl
  have Hw:=dh (show ∀ (W0:World) (W:World),Ext W1 W->W.cell? ⟨w.heap.size,0,none⟩=some (.int .u8 kd) from fun _ W hE=>hE.cell hcell);clear hW1 hcell;go_loopw [3,5,9] (fun v _ i wr=>∃ k:Nat,k<=x.parts.length/\i=.int .i64 k/\(∃ a c,v=.slice a k c)/\Hid (Ext W1 wr/\wr.ownsRow W1.heap.size 9 1 v k ((List.range k).map fun j=>Value.string (nth x.parts j).name))) (fun _ _ i _=>x.parts.length-(intOf i).toNat)
  case atStart=>exact ⟨0,Nat.zero_le _,rfl,⟨_,_,rfl⟩,dh ⟨Ext.refl _,World.ownsRow_nil _ _ _ _⟩⟩
  case round =>
   obtain ⟨k,hk,rfl,⟨va,vc,rfl⟩,hH⟩:=hrel;obtain ⟨hE,hown⟩:=hH.out;clear hH;by_cases hlt:k<x.parts.length
   ·obtain ⟨b,off,rfl,hbl,e0,e1,-⟩:=Parts.at (Parts.mono (HE1.out.trans hE) Hm.out) hlt;obtain ⟨X,hX⟩:∃ X:Obj,X=.cells #[.string (nth x.parts k).name,.int .i64 (nth x.parts k).type] 83:=⟨_,rfl⟩;obtain ⟨Y,hY⟩:∃ Y:Obj,Y=.cells #[.string (nth x.parts k).name] 9:=⟨_,rfl⟩;have hEX:Ext wr ((wr.alloc X).alloc Y):=(Ext.alloc _ _).trans (Ext.alloc _ _);have hrow:=owns_ext hown hEX;have hsz:=hE.size;have hw:W1.heap.size<=((wr.alloc X).alloc Y).heap.size:=Nat.le_trans hsz hEX.size;have hnew:=cell_one_new (wr.alloc X) (.string (nth x.parts k).name) 9;rw [<- hY] at hnew;rw [hX,hY] at hrow hw hnew;have HE:=dh hE;have Hown:=dh hown;clear hown hE hX hY hEX X Y;rw [World.size_alloc] at hnew;have z0:=Hw.out W1 wr HE.out;have z1:=cell_lt z0;simp only at z1;go_wp2_with (at_builtin; refine wpList_append_own _ rfl (.tmp 21) (.tmp 24) 84 rfl W1.heap.size 9 i0 (.string ⟨#[]⟩) 1 16 Tryz.underlying84 hi hz0 hz1 hz2 rfl (by decide) _ _ _ rfl hrow ⟨wr.heap.size+1,0,none⟩ 1 1 [.string (nth x.parts k).name] rfl rfl hnew (by simp [Value.oneCell']) (by unfold maxLen; omega) (by omega) hw ?_; intro v9 W9 hown9 hgrow9 _; have HX:=dh (below_grown (HE.out.trans (Ext.alloc _ _)) (by rw [World.size_alloc]; omega) (owns_ext Hown.out (Ext.alloc _ _)) hgrow9); obtain ⟨a9,c9,rfl⟩:=owns_slice hown9; have HO:=dh hown9; clear hown9 hgrow9);have hown':=HO.out;rw [<- range_snoc (fun j=>Value.string (nth x.parts j).name) k] at hown';go_roundw
    case rel=>exact ⟨k+1,by omega,by go_num,⟨_,_,rfl⟩,dh ⟨HX.out,hown'⟩⟩
    case measure=>simp [intOf]; omega
   ·have hkl:k=x.parts.length:=by omega
    subst hkl;have hE0:=HE1.out.trans hE;rw [names_eq] at hown;have hs:=owns_strs hown (by unfold maxBytes; omega) (fun s hs=>by
     obtain ⟨y,hy,rfl⟩:=List.mem_map.1 hs;obtain ⟨i,hi,rfl⟩:=mem_nth hy;obtain ⟨b,off,_,_,_,_,h,_⟩:=Parts.at Hm.out hi;exact h)
    have HS:=dh hs;have HE:=dh hE0;clear hE hown hs hE0;go_wp2_with fail;go_ret;exact ⟨_,rfl,HE.out,by rw [Hres.out]; exact HS.out⟩
end
section
open Go.RowKit Go.Proofs Go.Shelf
def firstF (g:List Ty) (N:Ty->List BA) (s:BA):List Nat->Int × Int × Int
 | []=>(0,0,5)
 | u :: us=>if 0<=idxI (fun y=>s==y) (N (nth g u)) then ((u:Int),idxI (fun y=>s==y) (N (nth g u)),0) else firstF g N s us
theorem firstF_drop {g:List Ty} {N:Ty->List BA} {s:BA} {L:List Nat} {k:Nat} (hk:k<L.length):firstF g N s (L.drop k)=if 0<=idxI (fun y=>s==y) (N (nth g (nth L k))) then (((nth L k:Nat):Int),idxI (fun y=>s==y) (N (nth g (nth L k))),0) else firstF g N s (L.drop (k+1)):=by
 rw [List.drop_eq_getElem_cons hk,nth_eq hk]
 rfl
theorem first67_68 (N:Ty->List BA) (vb:Nat) (g:List Ty) (C:Nat->Nat) (rs:List Reveal) (S:List Nat) (gv cv rv av:Value) (mb:Nat) (mm:List (BA × Value)) (w:World) (hv:EnvW w vb g C rs S gv cv rv av) (hby:ByAt w vb rs mb mm)
  (hn:g.length<=400) (hr60:rs.length<=60) (hr:∀ t,t<g.length->rightB g (nth g t)=true) (hrt:∀ i,i<rs.length->0<=(nth rs i).type/\(nth rs i).type<g.length)
  (hf:∀ (u:Nat) (W:World) (pa:Option Addr) (pl pc:Nat) (ma:Option Addr) (ml mc:Nat) (oa:Option Addr) (ol oc:Nat),u<g.length->Parts W (.slice pa pl pc) (nth g u).parts->Meths W (.slice ma ml mc) (nth g u).methods ->
   Calls Tryz.prog 68 #[.agg #[.int .u8 (nth g u).kind,.int .i64 (nth g u).low,.int .i64 (nth g u).high,.bool (nth g u).branded,.string (nth g u).brand,.string (nth g u).opq,.int .i64 (nth g u).super,.slice pa pl pc,.slice ma ml mc,.slice oa ol oc]] W fun e w'=>∃ v,e=.returned v/\Ext W w'/\Strs w' v (N (nth g u)))
  (a:Int) (hx:-9223372036854775808<=a/\a<=9223372036854775807) (s:BA) (hs:s.size<=140737488351232) :
  Calls Tryz.prog 67 #[.pointer (some ⟨vb,0,none⟩),.int .i64 a,.func (.func 68) #[] #[],.string s] w fun e w' =>
   (askedR g.length [a]=0/\e=.returned (.tuple #[.int .i64 (firstF g N s (lineL g rs a.toNat)).1,.int .i64 (firstF g N s (lineL g rs a.toNat)).2.1,.int .i64 (firstF g N s (lineL g rs a.toNat)).2.2])/\Ext w w') \/
   (askedR g.length [a]=1/\e=.returned (.tuple #[.int .i64 0,.int .i64 0,.int .i64 1])/\Ext w w'):=by
 have hE0:=Ext.alloc w (.cells #[.int .i64 a] 3);have hl:=ints_one w a hx;obtain ⟨ga,gc,rfl,_⟩:=id hv.gr;have hb:=(SlW.bound hv.gr).2;have hcall:=dh (asked47 vb ga g.length gc hn _ 1 1 [a] _ (hE0.cell hv.c0) hl);have HE0:=dh hE0; clear hE0 hl;have Hf:=dh hf; clear hf;rcases askedR_cases g.length [a] with ⟨h0,hin⟩ | ⟨h0,_⟩
 ·have H0:=dh h0;rw [h0] at hcall;have h1:=hin a (by simp);obtain ⟨an,rfl⟩:∃ an:Nat,a=an:=⟨a.toNat,(Int.toNat_of_nonneg h1.1).symm⟩;have hal:an<g.length:=by omega
  have Hl:=dh (fun W (hE:Ext w W)=>line59 vb g C rs S _ cv rv av mb mm W (hv.mono hE) (hby.mono hE) hn hr60 hr hrt an hal);have Hv:=dh hv;clear h0 hin h1 hv hby hr hrt
  go_enter Tryz.func67,Tryz.ntmps67
  go_wp2_with fail;refine hcall.out.mono ?_;rintro e w1 ⟨rfl,hE⟩;have HE:=dh (HE0.out.trans hE); clear hE;go_wp2_with fail;refine (Hl.out w1 HE.out).mono ?_;rintro e w2 ⟨v,rfl,hE2,hi,hok,-⟩;obtain ⟨L,hL⟩:∃ L,L=lineL g rs an:=⟨_,rfl⟩;rw [<- hL] at hi hok;have HL:=dh hL;obtain ⟨la,lc,rfl,-⟩:=id hi;have hll:(L.map fun (x:Nat)=>(x:Int)).length=L.length:=by simp
  rw [hll] at hi ⊢;have hln:=hok.le;have HE2:=dh (HE.out.trans hE2);have HI:=dh hi;have Hok:=dh hok;clear hE2 hi hok hL hll;go_upto_region 5 with (fail);go_loopw [13,14,26] (fun _ _ i wr=>∃ k:Nat,k<=L.length/\i=.int .i64 k/\Hid (Ext w2 wr/\firstF g N s L=firstF g N s (L.drop k))) (fun _ _ i _=>L.length-(intOf i).toNat)
  case atStart=>exact ⟨0,Nat.zero_le _,rfl,dh ⟨Ext.refl _,rfl⟩⟩
  case round =>
   obtain ⟨k,hk,rfl,hH⟩:=hrel;obtain ⟨hE,hfd⟩:=hH.out;clear hH;by_cases hlt:k<L.length
   ·obtain ⟨lb,loff,rfl,_,le,-⟩:=Ints.at (Ints.mono hE HI.out) (i:=k) (by simpa using hlt);rw [nth_eq (by simpa using hlt),List.getElem_map,<- nth_eq hlt] at le;obtain ⟨u,hu⟩:∃ u,u=nth L k:=⟨_,rfl⟩;have hun:u<g.length:=by rw [hu]; exact Hok.out.lt _ (nth_mem hlt)
    rw [<- hu] at le;have Hfd:=dh (show firstF g N s L=if 0<=idxI (fun y=>s==y) (N (nth g u)) then ((u:Int),idxI (fun y=>s==y) (N (nth g u)),0) else firstF g N s (L.drop (k+1)) by rw [hfd,firstF_drop hlt,<- hu]);have HE3:=dh hE;have c0:=(HE2.out.trans hE).cell Hv.out.c0;obtain ⟨b,off,pa,pl,pc,ma,ml,mc,oa,ol,oc,rfl,hblt,hT⟩:=Graph.at (Graph.mono (HE2.out.trans hE) Hv.out.gr) hun;have d0:=hT.c0;have d1:=hT.c1;have d2:=hT.c2;have d3:=hT.c3;have d4:=hT.c4;have d5:=hT.c5;have d6:=hT.c6;have d7:=hT.c7;have d8:=hT.c8;have d9:=hT.c9;have Hcall:=dh (Hf.out u wr pa pl pc ma ml mc oa ol oc hun hT.ps hT.ms);clear hT hfd hE hu;go_wp2_with fail;refine Hcall.out.mono ?_;rintro e w4 ⟨v,rfl,hE4,hstr⟩;obtain ⟨sa,sn,sc,rfl,-⟩:∃ sa sn sc,v=.slice sa sn sc/\True:=by obtain ⟨sa,sc,h,-⟩:=id hstr; exact ⟨sa,_,sc,h,trivial⟩
    have HE4:=dh (HE3.out.trans hE4);have Hix:=dh (index100 sa sn sc _ s w4 hstr);clear hE4 hstr d0 d1 d2 d3 d4 d5 d6 d7 d8 d9 c0 le;obtain ⟨ix,hix⟩:∃ ix,ix=idxI (fun y=>s==y) (N (nth g u)):=⟨_,rfl⟩;rw [<- hix] at Hix Hfd;clear hix;by_cases h0x:0<=ix
    ·have Hres:=dh (show firstF g N s L=((u:Int),ix,0) by rw [Hfd.out,if_pos h0x]);go_wp2_with fail;refine Hix.out.mono ?_;rintro e w5 ⟨rfl,rfl⟩;go_wp2_with fail;go_ret3;exact Or.inl ⟨H0.out,by simp only [Int.toNat_natCast]; rw [<- HL.out,Hres.out]; rfl,HE2.out.trans HE4.out⟩
    ·have Hres:=dh (show firstF g N s L=firstF g N s (L.drop (k+1)) by rw [Hfd.out,if_neg h0x]);go_wp2_with fail;refine Hix.out.mono ?_;rintro e w5 ⟨rfl,rfl⟩;go_wp2_with fail;go_roundw
     case rel=>exact ⟨k+1,by omega,by go_num,dh ⟨HE4.out,Hres.out⟩⟩
     case measure=>simp [intOf]; omega
   ·have hkl:k=L.length:=by omega
    subst hkl;have Hres:=dh (show firstF g N s L=(0,0,5) by rw [hfd,List.drop_length]; rfl);have HE5:=dh (HE2.out.trans hE);clear hfd hE;go_wp2_with fail;go_ret3;exact Or.inl ⟨H0.out,by simp only [Int.toNat_natCast]; rw [<- HL.out,Hres.out]; rfl,HE5.out⟩
 ·have H0:=dh h0;rw [h0] at hcall;clear h0 hv hby hr hrt
  go_enter Tryz.func67,Tryz.ntmps67
  go_wp2_with fail;refine hcall.out.mono ?_;rintro e w1 ⟨rfl,hE⟩;have HE:=dh (HE0.out.trans hE); clear hE;go_wp2_with fail;go_ret3;exact Or.inr ⟨H0.out,rfl,HE.out⟩
end
section
open Go.RowKit Go.Proofs Go.Shelf
theorem field31 (vb:Nat) (g:List Ty) (C:Nat->Nat) (rs:List Reveal) (S:List Nat) (gv cv rv av:Value) (mb:Nat) (mm:List (BA × Value)) (w:World) (hv:EnvW w vb g C rs S gv cv rv av) (hby:ByAt w vb rs mb mm)
  (hn:g.length<=400) (hr60:rs.length<=60) (hr:∀ t,t<g.length->rightB g (nth g t)=true) (hrt:∀ i,i<rs.length->0<=(nth rs i).type/\(nth rs i).type<g.length)
  (a:Int) (hx:-9223372036854775808<=a/\a<=9223372036854775807) (s:BA) (hs:s.size<=140737488351232) :
  Calls Tryz.prog 31 #[.pointer (some ⟨vb,0,none⟩),.int .i64 a,.string s] w fun e w' =>
   (askedR g.length [a]=0/\e=.returned (.tuple #[.int .i64 (firstF g fieldN s (lineL g rs a.toNat)).1,.int .i64 (firstF g fieldN s (lineL g rs a.toNat)).2.1,.int .i64 (firstF g fieldN s (lineL g rs a.toNat)).2.2])/\Ext w w') \/
   (askedR g.length [a]=1/\e=.returned (.tuple #[.int .i64 0,.int .i64 0,.int .i64 1])/\Ext w w'):=by
 have Hc:=dh (first67_68 fieldN vb g C rs S gv cv rv av mb mm w hv hby hn hr60 hr hrt (fun u W pa pl pc ma ml mc oa ol oc hu hp hm=>names68 _ _ _ ⟨_,_,_,rfl⟩ ⟨_,_,_,rfl⟩ _ _ _ W hp (by have:=right_parts (hr u hu); rw [SlW.len hp]; omega)) a hx s hs);clear hv hby hr hrt
 go_enter Tryz.func31,Tryz.ntmps31
 go_wp2_with fail;refine Hc.out.mono ?_;rintro e w1 (⟨h0,rfl,hE⟩ | ⟨h0,rfl,hE⟩)
 ·have H0:=dh h0;have HE:=dh hE;clear h0 hE;go_wp2_with fail;go_ret3;exact Or.inl ⟨H0.out,rfl,HE.out⟩
 ·have H0:=dh h0;have HE:=dh hE;clear h0 hE;go_wp2_with fail;go_ret3;exact Or.inr ⟨H0.out,rfl,HE.out⟩
end
section
open Go.RowKit Go.Proofs Go.Shelf
def I64 (a:Int):Prop:=-9223372036854775808<=a/\a<=9223372036854775807
def EnvA (W:World) (vb:Nat) (g:List Ty) (rs:List Reveal):Prop:=openE g rs=0/\∃ gv cv rv av mb mm,EnvW W vb g (classesOf g) rs (reachL g rs g.length) gv cv rv av/\ByAt W vb rs mb mm
theorem EnvA.mono {W W':World} {vb:Nat} {g:List Ty} {rs:List Reveal} (h:EnvA W vb g rs) (hE:Ext W W'):EnvA W' vb g rs:=by
 obtain ⟨h0,gv,cv,rv,av,mb,mm,h1,h2⟩:=h;exact ⟨h0,gv,cv,rv,av,mb,mm,h1.mono hE,h2.mono hE⟩
def belowQ (g:List Ty) (rs:List Reveal) (a b:Int):Bool × Int:=belowR g.length (reachL g rs g.length) a b
def aboveQ (g:List Ty) (rs:List Reveal) (a:Int):List Int:=if askedR g.length [a]=0 then numsOf (aboveL g.length (reachL g rs g.length) a.toNat) else []
def joinQ (g:List Ty) (rs:List Reveal) (a b:Int):Int × Bool × Int:=joinR g.length (reachL g rs g.length) a b
def assignQ (g:List Ty) (rs:List Reveal) (a b:Int):Int × Int × Int × Int:=assignR g (reachL g rs g.length) a b
def lineQ (g:List Ty) (rs:List Reveal) (a:Int):List Int:=if askedR g.length [a]=0 then numsOf (lineL g rs a.toNat) else []
def fieldQ (g:List Ty) (rs:List Reveal) (a:Int) (s:BA):Int × Int × Int:=if askedR g.length [a]=0 then firstF g fieldN s (lineL g rs a.toNat) else (0,0,1)
def deriveQ (g:List Ty) (rs:List Reveal) (a b:Int):Bool × List Stp:=if askedR g.length [a,b]=0 then (deriveB a.toNat (stF g (classesOf g) rs) g.length b.toNat,deriveL a.toNat (stF g (classesOf g) rs) g.length b.toNat) else (false,[])
theorem asked01 (n:Nat) (l:List Int):askedR n l=0\/askedR n l=1:=by unfold askedR; split; exact Or.inr rfl; exact Or.inl rfl
theorem reachL_len (g:List Ty) (rs:List Reveal) (k:Nat):(reachL g rs k).length=k:=by simp [reachL]
section
variable {W:World} {vb:Nat} {g:List Ty} {rs:List Reveal}
theorem belowA (h:EnvA W vb g rs) (a b:Int) (hx:I64 a) (hy:I64 b):Calls Tryz.prog 17 #[.pointer (some ⟨vb,0,none⟩),.int .i64 a,.int .i64 b] W fun e w' =>
  e=.returned (.tuple #[.bool (belowQ g rs a b).1,.int .i64 (belowQ g rs a b).2])/\Ext W w':=by
 obtain ⟨h0,gv,cv,rv,av,mb,mm,h1,h2⟩:=h;obtain ⟨_,h400,h60,hr,hbad⟩:=opens h0;exact below17 vb g _ rs _ gv cv rv av h400 (reachL_len g rs _) a b W h1 hx hy
theorem joinA (h:EnvA W vb g rs) (a b:Int) (hx:I64 a) (hy:I64 b):Calls Tryz.prog 21 #[.pointer (some ⟨vb,0,none⟩),.int .i64 a,.int .i64 b] W fun e w' =>
  e=.returned (.tuple #[.int .i64 (joinQ g rs a b).1,.bool (joinQ g rs a b).2.1,.int .i64 (joinQ g rs a b).2.2])/\Ext W w':=by
 obtain ⟨h0,gv,cv,rv,av,mb,mm,h1,h2⟩:=h;obtain ⟨_,h400,h60,hr,hbad⟩:=opens h0;exact join21 vb g _ rs _ gv cv rv av h400 (reachL_len g rs _) a b W h1 hx hy
theorem assignA (h:EnvA W vb g rs) (a b:Int) (hx:I64 a) (hy:I64 b):Calls Tryz.prog 28 #[.pointer (some ⟨vb,0,none⟩),.int .i64 a,.int .i64 b] W fun e w' =>
  e=.returned (.tuple #[.agg #[.int .u8 (assignQ g rs a b).1,.int .i64 (assignQ g rs a b).2.1,.int .i64 (assignQ g rs a b).2.2.1],.int .i64 (assignQ g rs a b).2.2.2])/\Ext W w':=by
 obtain ⟨h0,gv,cv,rv,av,mb,mm,h1,h2⟩:=h;obtain ⟨_,h400,h60,hr,hbad⟩:=opens h0;exact assign28 vb g _ rs _ gv cv rv av h400 (reachL_len g rs _) a b W h1 hx hy
def RowPost (W:World) (xs:List Int) (err:Int) (e:Ending) (w':World):Prop:=∃ x n c,e=.returned (.tuple #[.slice x n c,.int .i64 err])/\Ints w' (.slice x n c) xs/\Ext W w'
theorem aboveA (h:EnvA W vb g rs) (a:Int) (hx:I64 a):Calls Tryz.prog 19 #[.pointer (some ⟨vb,0,none⟩),.int .i64 a] W (RowPost W (aboveQ g rs a) (askedR g.length [a])):=by
 obtain ⟨h0,gv,cv,rv,av,mb,mm,h1,h2⟩:=h;obtain ⟨_,h400,h60,hr,hbad⟩:=opens h0;refine (above19 vb g _ rs _ gv cv rv av h400 (reachL_len g rs _) a W h1 hx).mono ?_;rintro e w' (⟨k,v,rfl,hi,hE,-⟩ | ⟨k,rfl,hE⟩)
 ·obtain ⟨x,c,rfl,_⟩:=id hi;exact ⟨x,_,c,by rw [k],by unfold aboveQ; rw [if_pos k]; exact hi,hE⟩
 ·exact ⟨_,_,_,by rw [k],by unfold aboveQ; rw [if_neg (by rw [k]; decide)]; exact SlW.nil _ _ _,hE⟩
theorem lineA (h:EnvA W vb g rs) (a:Int) (hx:I64 a):Calls Tryz.prog 26 #[.pointer (some ⟨vb,0,none⟩),.int .i64 a] W (RowPost W (lineQ g rs a) (askedR g.length [a])):=by
 obtain ⟨h0,gv,cv,rv,av,mb,mm,h1,h2⟩:=h;obtain ⟨_,h400,h60,hr,hbad⟩:=opens h0;refine (line26 vb g _ rs _ gv cv rv av mb mm W h1 h2 h400 h60 hr (fun i hi=>rev_in (hbad i hi)) a hx).mono ?_;rintro e w' (⟨k,v,rfl,hi,hE,-⟩ | ⟨k,rfl,hE⟩)
 ·obtain ⟨x,c,rfl,_⟩:=id hi;exact ⟨x,_,c,by rw [k],by unfold lineQ; rw [if_pos k]; exact hi,hE⟩
 ·exact ⟨_,_,_,by rw [k],by unfold lineQ; rw [if_neg (by rw [k]; decide)]; exact SlW.nil _ _ _,hE⟩
theorem fieldA (h:EnvA W vb g rs) (a:Int) (hx:I64 a) (s:BA) (hs:s.size<=140737488351232):Calls Tryz.prog 31 #[.pointer (some ⟨vb,0,none⟩),.int .i64 a,.string s] W fun e w' =>
  e=.returned (.tuple #[.int .i64 (fieldQ g rs a s).1,.int .i64 (fieldQ g rs a s).2.1,.int .i64 (fieldQ g rs a s).2.2])/\Ext W w':=by
 obtain ⟨h0,gv,cv,rv,av,mb,mm,h1,h2⟩:=h;obtain ⟨_,h400,h60,hr,hbad⟩:=opens h0;refine (field31 vb g _ rs _ gv cv rv av mb mm W h1 h2 h400 h60 hr (fun i hi=>rev_in (hbad i hi)) a hx s hs).mono ?_;rintro e w' (⟨k,rfl,hE⟩ | ⟨k,rfl,hE⟩)
 ·exact ⟨by unfold fieldQ; rw [if_pos k],hE⟩
 ·exact ⟨by unfold fieldQ; rw [if_neg (by rw [k]; decide)],hE⟩
def DerPost (W:World) (q:Bool × List Stp) (err:Int) (e:Ending) (w':World):Prop:=∃ x n c,e=.returned (.tuple #[.slice x n c,.bool q.1,.int .i64 err])/\StepsW w' (.slice x n c) (q.2.map Stp.toI)/\Ext W w'
theorem two_in {n:Nat} {a b:Int} (h:askedR n [a,b]=0):∃ x y:Nat,a=x/\b=y/\x<n/\y<n:=by
 rcases askedR_cases n [a,b] with ⟨_,hin⟩ | ⟨h1,_⟩
 ·have h1:=hin a (by simp);have h2:=hin b (by simp);exact ⟨a.toNat,b.toNat,by omega,by omega,by omega,by omega⟩
 ·rw [h] at h1; cases h1
theorem deriveA (h:EnvA W vb g rs) (a b:Int) (hx:I64 a) (hy:I64 b):Calls Tryz.prog 38 #[.pointer (some ⟨vb,0,none⟩),.int .i64 a,.int .i64 b] W (DerPost W (deriveQ g rs a b) (askedR g.length [a,b])):=by
 obtain ⟨h0,gv,cv,rv,av,mb,mm,h1,h2⟩:=h;obtain ⟨_,h400,h60,hr,hbad⟩:=opens h0;rcases asked01 g.length [a,b] with k | k
 ·obtain ⟨x,y,rfl,rfl,hx1,hy1⟩:=two_in k;refine (derive38 vb g _ rs _ gv cv rv av mb mm W h1 h2 h400 h60 hr (fun i hi=>rev_in (hbad i hi)) x y hx1 hy1 k).mono ?_;rintro e w' ⟨v,rfl,hs,hE⟩;obtain ⟨p,c,rfl,_⟩:=id hs;unfold deriveQ;rw [if_pos k,k];exact ⟨p,_,c,rfl,hs,hE⟩
 ·refine (deriveBad38 vb g _ rs _ gv cv rv av W h1 h400 a b hx hy k).mono ?_;rintro e w' ⟨rfl,hE⟩;unfold deriveQ;rw [if_neg (by rw [k]; decide),k];exact ⟨_,_,_,rfl,SlW.nil _ _ _,hE⟩
end
def InA (W:World) (g:List Ty) (rs:List Reveal) (e:Ending) (w':World):Prop:=Ext W w' /\
 ((openE g rs=0/\∃ vb,e=.returned (.tuple #[.pointer (some ⟨vb,0,none⟩),.int .i64 0])/\EnvA w' vb g rs)\/(openE g rs≠0/\e=.returned (.tuple #[.pointer none,.int .i64 (openE g rs)])))
theorem inA (a:Option Addr) (n c:Nat) (g:List Ty) (ra:Option Addr) (rn rc:Nat) (rs:List Reveal) (w:World) (hg:Graph w (.slice a n c) g) (hre:Reveals w (.slice ra rn rc) rs) :
  Calls Tryz.prog 24 #[.slice a n c,.slice ra rn rc] w (InA w g rs):=by
 refine (in24 a n c g ra rn rc rs w hg hre).mono ?_;rintro e w' (⟨h0,vb,gv,cv,rv,mb,m,w1,av,rfl,hO,hI⟩ | ⟨h0,rfl,hE⟩)
 ·obtain ⟨h1,h2,h3⟩:=hI.env hO (opens h0).2.1;exact ⟨h3,Or.inl ⟨h0,vb,rfl,h0,gv,cv,rv,av,mb,m,h1,h2⟩⟩
 ·exact ⟨hE,Or.inr ⟨h0,rfl⟩⟩
end
section
open Go.RowKit Go.Proofs Go.Shelf
def fullG:List Reveal:=[⟨⟨#[73,46,84]⟩,true,6⟩]
theorem full45 (w:World):Calls Tryz.prog 45 #[] w fun e w'=>∃ a,e=.returned (.slice (some a) 1 1)/\Ext w w'/\Reveals w' (.slice (some a) 1 1) fullG/\a=⟨w.heap.size,0,none⟩:=by
 go_enter Tryz.func45,Tryz.ntmps45
 go_wp2;go_ret;refine ⟨_,rfl,Ext.alloc _ _,?_,rfl⟩;have h:=heap_alloc_new w (.cells #[.string ⟨#[73,46,84]⟩,.bool true,.int .i64 6] 43);refine ⟨_,1,rfl,by simp [fullG],by simp [fullG,maxBytes],fun i x hx=>?_⟩
 match i,hx with
 | 0,hx =>
  simp [fullG] at hx;subst hx;refine ⟨w.heap.size,0,[.string ⟨#[73,46,84]⟩,.bool true,.int .i64 6],rfl,⟨rfl,by decide⟩,rfl,fun j u hj=>?_⟩;rw [show 0+0*3+j=j by omega];exact row_cell h (by simpa using hj)
end
section
open Go.RowKit Go.Proofs
theorem succ_ok {g:List Ty} {rs:List Reveal} (h:openE g rs=0):∀ x,x<g.length->∀ u,u∈succF g (classesOf g) rs x->u<g.length:=by
 obtain ⟨_,h400,h60,hr,hbad⟩:=opens h;exact succF_lt hr h60 (fun i hi=>rev_in (hbad i hi))
theorem nth_reachL {g:List Ty} {rs:List Reveal} {a:Nat} (ha:a<g.length):nth (reachL g rs g.length) a=reachN (succF g (classesOf g) rs) g.length a:=by
 rw [nth_eq (by rw [reachL_len]; exact ha)];simp [reachL]
def Lies (g:List Ty) (rs:List Reveal) (a b:Nat):Prop:=Reach (succF g (classesOf g) rs) a b
theorem bit_lies {g:List Ty} {rs:List Reveal} (h:openE g rs=0) {a b:Nat} (ha:a<g.length):(nth (reachL g rs g.length) a).testBit b=true↔Lies g rs a b:=by
 rw [nth_reachL ha];exact reachN_iff ha (succ_ok h) b
theorem asked_in {n:Nat} {l:List Int} (h:∀ i,i∈l->0<=i/\i<n):askedR n l=0:=by
 rcases askedR_cases n l with ⟨h0,_⟩ | ⟨_,i,hi,hh⟩
 ·exact h0
 ·have:=h i hi;rw [hasI_iff.2 this] at hh; cases hh
theorem asked_two {n a b:Nat} (ha:a<n) (hb:b<n):askedR n [(a:Int),(b:Int)]=0:=asked_in (fun i hi=>by
 simp only [List.mem_cons,List.not_mem_nil,or_false] at hi;omega)
theorem belowQ_iff {g:List Ty} {rs:List Reveal} (h:openE g rs=0) {a b:Nat} (ha:a<g.length) (hb:b<g.length):(belowQ g rs a b).2=0/\((belowQ g rs a b).1=true↔Lies g rs a b):=by
 unfold belowQ belowR;rw [if_pos (asked_two ha hb)];exact ⟨rfl,bit_lies h ha⟩
def StepOk (g:List Ty) (C:Nat->Nat) (rs:List Reveal) (x:Nat) (s:Stp):Prop :=
 (s.rule=1/\s.n=0/\s.to_<g.length/\C s.to_=C x) \/
 (s.rule=2/\s.n=0/\s.to_<g.length/\(nth g x).kind=3/\widerB (nth g x) (nth g s.to_)=true) \/
 (s.rule=3/\s.n=0/\s.to_<g.length/\(nth g x).kind=5/\isWordB (nth g s.to_).kind=false) \/
 (s.rule=4/\s.n=0/\hasSuperB (nth g x).kind=true/\s.to_=(nth g x).super.toNat) \/
 (s.rule=5/\s.n<rs.length/\(nth g x).kind=13/\(nth rs s.n).name=(nth g x).opq/\s.to_=(nth rs s.n).type.toNat) \/
 (s.rule=6/\s.n<rs.length/\s.to_<g.length/\(nth rs s.n).full=true/\(nth rs s.n).type=(x:Int)/\(nth g s.to_).kind=13/\(nth g s.to_).opq=(nth rs s.n).name) \/
 (s.rule=7/\s.n=0/\s.to_<g.length/\anyP (anyTo (nth g x).kind) (nth g s.to_).kind=true)
theorem mem_toL {r n:Nat} {p:Nat->Bool} {s:Stp}:s∈toL r n p↔s.rule=r/\s.n=0/\s.to_<n/\p s.to_=true:=by
 unfold toL;simp only [List.mem_map,List.mem_filter,List.mem_range];constructor
 ·rintro ⟨u,⟨h1,h2⟩,rfl⟩; exact ⟨rfl,rfl,h1,h2⟩
 ·obtain ⟨a,b,c⟩:=s;rintro ⟨h1,h2,h3,h4⟩;simp only at h1 h2 h3 h4;subst h1 h2;exact ⟨b,⟨h3,h4⟩,rfl⟩
theorem mem_byN {rs:List Reveal} {k:Nat} {name:BA} {i:Nat}:i∈byN rs k name↔i<k/\(nth rs i).name=name:=by
 unfold byN;simp only [List.mem_filter,List.mem_range,beq_iff_eq]
theorem mem_back {g:List Ty} {rs:List Reveal} {t:Nat} {s:Stp}:s∈backL g rs t↔s.rule=6/\s.n<rs.length/\s.to_<g.length/\(nth rs s.n).full=true/\(nth rs s.n).type=(t:Int)/\(nth g s.to_).kind=13/\(nth g s.to_).opq=(nth rs s.n).name:=by
 unfold backL backUpTo;simp only [List.mem_flatten,List.mem_map,List.mem_range];constructor
 ·rintro ⟨l,⟨i,hi,rfl⟩,hs⟩;unfold backOf at hs;split at hs
  ·rename_i h
   simp only [Bool.and_eq_true,beq_iff_eq] at h;obtain ⟨u,hu,rfl⟩:=List.mem_map.1 hs;obtain ⟨h1,h2⟩:=List.mem_filter.1 hu;simp only [Bool.and_eq_true,beq_iff_eq] at h2;exact ⟨rfl,hi,List.mem_range.1 h1,h.1,h.2,h2.1,h2.2⟩
  ·cases hs
 ·obtain ⟨a,b,c⟩:=s;rintro ⟨h1,h2,h3,h4,h5,h6,h7⟩;simp only at h1 h2 h3 h4 h5 h6 h7;subst h1;refine ⟨_,⟨c,h2,rfl⟩,?_⟩;unfold backOf;rw [if_pos (by rw [h4,h5]; simp)];exact List.mem_map.2 ⟨b,List.mem_filter.2 ⟨List.mem_range.2 h3,by rw [h6,h7]; simp⟩,rfl⟩
theorem mem_steps {g:List Ty} {C:Nat->Nat} {rs:List Reveal} {x:Nat} {s:Stp}:s∈stepsL g C rs x↔StepOk g C rs x s:=by
 unfold stepsL stepsTo;simp only [List.mem_flatten,List.mem_map,List.mem_range];constructor
 ·rintro ⟨l,⟨i,hi,rfl⟩,hs⟩;rcases (show i=0\/i=1\/i=2\/i=3\/i=4\/i=5\/i=6\/i=7 by omega) with rfl | rfl | rfl | rfl | rfl | rfl | rfl | rfl
  ·cases hs
  ·have:=mem_toL.1 hs;exact Or.inl ⟨this.1,this.2.1,this.2.2.1,by simpa using this.2.2.2⟩
  ·simp only [ruleL,widerL] at hs;split at hs
   ·rename_i h
    have:=mem_toL.1 hs;exact Or.inr (Or.inl ⟨this.1,this.2.1,this.2.2.1,h,this.2.2.2⟩)
   ·cases hs
  ·simp only [ruleL,nullL] at hs;split at hs
   ·rename_i h
    have:=mem_toL.1 hs;exact Or.inr (Or.inr (Or.inl ⟨this.1,this.2.1,this.2.2.1,h,by simpa using this.2.2.2⟩))
   ·cases hs
  ·simp only [ruleL,superL] at hs;split at hs
   ·rename_i h
    rw [List.mem_singleton] at hs;subst hs;exact Or.inr (Or.inr (Or.inr (Or.inl ⟨rfl,rfl,h,rfl⟩)))
   ·cases hs
  ·simp only [ruleL,revealL] at hs;split at hs
   ·rename_i h
    obtain ⟨i,hi,rfl⟩:=List.mem_map.1 hs;have:=mem_byN.1 hi;exact Or.inr (Or.inr (Or.inr (Or.inr (Or.inl ⟨rfl,this.1,h,this.2,rfl⟩))))
   ·cases hs
  ·exact Or.inr (Or.inr (Or.inr (Or.inr (Or.inr (Or.inl (mem_back.1 hs))))))
  ·have:=mem_toL.1 hs;exact Or.inr (Or.inr (Or.inr (Or.inr (Or.inr (Or.inr ⟨this.1,this.2.1,this.2.2.1,this.2.2.2⟩)))))
 ·obtain ⟨a,b,c⟩:=s;rintro (⟨h1,h2,h3,h4⟩ | ⟨h1,h2,h3,h4,h5⟩ | ⟨h1,h2,h3,h4,h5⟩ | ⟨h1,h2,h3,h4⟩ | ⟨h1,h2,h3,h4,h5⟩ | h | ⟨h1,h2,h3,h4⟩)
  ·exact ⟨_,⟨1,by decide,rfl⟩,mem_toL.2 ⟨h1,h2,h3,by simpa using h4⟩⟩
  ·refine ⟨_,⟨2,by decide,rfl⟩,?_⟩;simp only [ruleL,widerL];rw [if_pos h4];exact mem_toL.2 ⟨h1,h2,h3,h5⟩
  ·refine ⟨_,⟨3,by decide,rfl⟩,?_⟩;simp only [ruleL,nullL];rw [if_pos h4];exact mem_toL.2 ⟨h1,h2,h3,by simpa using h5⟩
  ·refine ⟨_,⟨4,by decide,rfl⟩,?_⟩;simp only [ruleL,superL];rw [if_pos h3,List.mem_singleton];simp only at h1 h2 h4;rw [h1,h2,h4]
  ·refine ⟨_,⟨5,by decide,rfl⟩,?_⟩;simp only [ruleL,revealL];rw [if_pos h3];simp only at h1 h2 h4 h5;exact List.mem_map.2 ⟨c,mem_byN.2 ⟨h2,h4⟩,by rw [h1,h5]⟩
  ·exact ⟨_,⟨6,by decide,rfl⟩,mem_back.2 h⟩
  ·exact ⟨_,⟨7,by decide,rfl⟩,mem_toL.2 ⟨h1,h2,h3,h4⟩⟩
theorem lead_le_of {i k:Nat} {p:Nat->Bool} (hk:k<i) (h:p k=true):lead i p<=k:=by
 unfold lead;cases hf:(List.range i).find? p with
 | none =>
  have:=List.find?_eq_none.1 hf k (List.mem_range.2 hk);exact absurd h this
 | some m =>
  show m<=k
  rw [List.find?_range_eq_some] at hf;rcases Nat.lt_or_ge k m with hlt | hge
  ·have:=hf.2.2 k hlt;rw [h] at this; cases this
  ·exact hge
theorem leadF_same {q:Nat->Nat->Bool} {i j:Nat} (hij:i<=j) (hq:∀ k,q i k=q j k) (hr:q i i=true):leadF q i=leadF q j:=by
 rw [leadF_eq q j];rcases Nat.lt_or_ge i j with hlt | hge
 ·have h0:=leadF_eq q i;rcases lead_cases i (fun k=>leadF q k==k&&q i k) with h | ⟨h,h2⟩
  ·have hli:leadF q i=i:=by rw [h0,h]
   rw [hli];refine (lead_hit hlt (by rw [hli,<- hq i,hr]; simp) (fun k hk=>?_)).symm;cases hc:(leadF q k==k&&q j k) with
   | false=>rfl
   | true =>
    exfalso;rw [<- hq k] at hc;have:=lead_le_of (p:=fun k=>leadF q k==k&&q i k) hk hc;omega
  ·have hli:leadF q i=lead i (fun k=>leadF q k==k&&q i k):=h0;rw [hli];refine (lead_hit (by omega) (by rw [<- hq]; exact h2) (fun k hk=>?_)).symm;cases hc:(leadF q k==k&&q j k) with
   | false=>rfl
   | true =>
    exfalso;rw [<- hq k] at hc;have:=lead_le_of (p:=fun k=>leadF q k==k&&q i k) (show k<i by omega) hc;omega
 ·have:i=j:=by omega
  subst this;exact leadF_eq q i
end
section
open Go.RowKit Go.Proofs Go.Shelf
structure PermI (w wr:World) (r n:Nat) (l:List Int) (k:Nat) (S:Nat->Bool):Prop where
 ext:Ext w wr
 lo:w.heap.size<=r
 row:RowT wr r n S
 inr:∀ i,i<k->0<=nth l i/\nth l i<n
 hit:∀ x:Nat,S x=true->∃ i,i<k/\nth l i=(x:Int)
 got:∀ i,i<k->S (nth l i).toNat=true
 dis:∀ i j,i<j->j<k->nth l i≠nth l j
theorem PermI.push {w wr:World} {r n:Nat} {l:List Int} {k:Nat} {S:Nat->Bool} (h:PermI w wr r n l k S) {x:Nat} (hx:nth l k=(x:Int)) (hxn:x<n) (hs:S x=false):PermI w (wr.setCell ⟨r,x,none⟩ (.bool true)) r n l (k+1) (mark S x):=by
 refine ⟨Below.setCell h.ext h.lo _,h.lo,h.row.set x,fun i hi=>?_,fun y hy=>?_,fun i hi=>?_,fun i j hij hj=>?_⟩
 ·by_cases hik:i=k
  ·subst hik; rw [hx]; omega
  ·exact h.inr i (by omega)
 ·unfold mark at hy;simp only [Bool.or_eq_true,beq_iff_eq] at hy;by_cases hyx:y=x
  ·exact ⟨k,by omega,by rw [hx,hyx]⟩
  ·obtain ⟨i,hi,e⟩:=h.hit y (by rcases hy with hy | hy; first | exact hy | exact absurd hy hyx; first | exact hy | exact absurd hy hyx);exact ⟨i,by omega,e⟩
 ·unfold mark;by_cases hik:i=k
  ·subst hik; rw [hx]; simp
  ·rw [h.got i (by omega)]; simp
 ·by_cases hjk:j=k
  ·subst hjk;intro e;have h1:=h.got i hij;rw [e,hx,Int.toNat_natCast,hs] at h1;cases h1
  ·exact h.dis i j hij (by omega)
def PermPost (w:World) (l:List Int) (n:Nat) (e:Ending) (w':World):Prop:=∃ b,e=.returned (.bool b)/\Ext w w'/\(b=true->l.length=n/\(∀ i,i<n->0<=nth l i/\nth l i<n)/\∀ i j,i<j->j<n->nth l i≠nth l j)
theorem permutation40 (a:Option Addr) (ln c:Nat) (l:List Int) (n:Nat) (w:World) (hl:Ints w (.slice a ln c) l) (hn:ln<=400):Calls Tryz.prog 40 #[.slice a ln c,.int .i64 n] w (PermPost w l n):=by
 obtain rfl:=SlW.len hl;have Hl:=dh hl;clear hl;by_cases hne:l.length=n;rotate_left
 ·have hne2:((l.length:Int)==(n:Int))=false:=by rw [beq_eq_false_iff_ne]; omega
  have hne3:((l.length:Int) != (n:Int))=true:=bneOf hne2
  go_enter Tryz.func40,Tryz.ntmps40
  go_wp2_with fail;go_ret;exact ⟨false,rfl,Ext.refl _,fun h=>by cases h⟩
 subst hne;have hne3:((l.length:Int) != (l.length:Int))=false:=by simp
 have hmk:=makeRowT l.length hn
 go_enter Tryz.func40,Tryz.ntmps40
 go_wp2_with fail;have hI:PermI w (w.alloc (.cells (bRow l.length fun _=>false) 4)) w.heap.size l.length l 0 (fun _=>false) :=
  ⟨Ext.alloc _ _,Nat.le_refl _,RowT.new _ _ _,fun i hi=>(by omega),fun x hx=>(by cases hx),fun i hi=>(by omega),fun i j _ hj=>(by omega)⟩
 have HI:=dh hI;clear hI hmk;generalize w.heap.size=r at HI ⊢;go_loopw [6] (fun iv wr=>∃ k:Nat,k<=l.length/\iv=.int .i64 k/\Hid (∃ S,PermI w wr r l.length l k S)) (fun iv _=>l.length-(intOf iv).toNat)
 case atStart=>exact ⟨0,Nat.zero_le _,rfl,dh ⟨_,HI.out⟩⟩
 case round =>
  clear HI;obtain ⟨k,hk,rfl,hH⟩:=hrel;obtain ⟨S,hS⟩:=hH.out;have HI:=dh hS;clear hH hS;by_cases hkn:k<l.length
  ·have hko:(k:Int)<l.length:=by omega
   obtain ⟨b,off,ha,hlt,d,-⟩:=Ints.at (Ints.mono HI.out.ext Hl.out) hkn;obtain ⟨x,hx⟩:∃ x,x=nth l k:=⟨_,rfl⟩;rw [<- hx] at d;have Hx:=dh hx;clear hx;subst ha;by_cases h1:x<0
   ·go_wp2_with fail;go_ret;exact ⟨false,rfl,HI.out.ext,fun h=>by cases h⟩
   by_cases h2:x<l.length;rotate_left
   ·have h3:(l.length:Int)<=x:=by omega
    go_wp2_with fail;go_ret;exact ⟨false,rfl,HI.out.ext,fun h=>by cases h⟩
   obtain ⟨y,rfl⟩:∃ y:Nat,x=y:=⟨x.toNat,by omega⟩;have hyn:y<l.length:=by omega
   have rc:=HI.out.row.cell hyn;have rf:=HI.out.row.free y;cases hs:S y
   ·rw [hs] at rc;have HJ:=dh (HI.out.push Hx.out.symm hyn hs);clear hs;go_wp2_with fail;go_roundw
    case rel=>exact ⟨k+1,by omega,by go_num,dh ⟨_,HJ.out⟩⟩
    case measure=>simp [intOf]; omega
   ·rw [hs] at rc;clear hs;go_wp2_with fail;go_ret;exact ⟨false,rfl,HI.out.ext,fun h=>by cases h⟩
  ·have hkn:k=l.length:=by omega
   subst hkn;go_wp2_with fail;go_ret;exact ⟨true,rfl,HI.out.ext,fun _=>⟨rfl,HI.out.inr,HI.out.dis⟩⟩
end
end Go.Proofs.YtjffkeoajkhbmaaGreat
