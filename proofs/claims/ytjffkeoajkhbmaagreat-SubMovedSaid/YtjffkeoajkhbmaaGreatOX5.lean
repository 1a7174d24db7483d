/- What types.objects returns and leaves. What types says of a type in itself. Whether a type is as said in itself. -/
import Derived.Laws.EntriesVeiled
import Derived.Test.YtjffkeoajkhbmaaGreatOX4
namespace Go.Proofs.YtjffkeoajkhbmaaGreat
set_option linter.unusedSimpArgs false
set_option linter.unusedVariables false
set_option maxRecDepth 100000
set_option maxHeartbeats 8000000
section
open Go.RowKit Go.Proofs
theorem objects149 (w0 w:World) (a:Option Addr) (n c:Nat) (g:List Ty) (t:Ty) (bx:Nat) (pa:Option Addr) (pl pc:Nat) (ma:Option Addr) (ml mc:Nat) (oa:Option Addr) (ol oc:Nat) (h0:bx=w0.heap.size) (hB:Below bx w0 w)
  (hg:Graph w0 (.slice a n c) g) (hp:Parts w0 (.slice pa pl pc) t.parts) (hm:Meths w0 (.slice ma ml mc) t.methods) (ho:Overs w0 (.slice oa ol oc) t.overs) (hx:Box w bx t (.slice pa pl pc) (.slice ma ml mc) (.slice oa ol oc)) :
  Calls Tryz.prog 149 #[.agg #[.slice a n c],.pointer (some ⟨bx,0,none⟩)] w (RulePost w0 w bx (objectsB g t) (clearObj t) (.slice none 0 0) (.slice none 0 0) (.slice none 0 0)):=by
 have hlt:=hx.lt;have hbr:=dh (branded171 w0 ((w.alloc (.cells #[.slice a n c] 118)).drew) a n c g t bx pa _ pc (.slice ma ml mc) (.slice oa ol oc) h0 (hB.alloc (Nat.le_of_lt hlt) _).drew hg hp (hx.ext ((Ext.alloc _ _).trans (Ext.drew _))));have hend:=dh (show ∀ r,r=objectsB g t->∀ W,Below bx w0 W->Box W bx (clearBrand t) (.slice pa pl pc) (.slice ma ml mc) (.slice oa ol oc)->w.grownBy W (some bx)->RulePost w0 w bx (objectsB g t) (clearObj t) (.slice none 0 0) (.slice none 0 0) (.slice none 0 0) (.returned (.bool r))
   ((((W.setCell ⟨bx,7,none⟩ (.slice none 0 0)).setCell ⟨bx,8,none⟩ (.slice none 0 0)).setCell ⟨bx,9,none⟩ (.slice none 0 0)).setCell ⟨bx,6,none⟩ (.int .i64 0)) from
  fun r hr W h1 h2 h3=>⟨by rw [hr],Below.setCell (Below.setCell (Below.setCell (Below.setCell h1 (Nat.le_refl _) _) (Nat.le_refl _) _) (Nat.le_refl _) _) (Nat.le_refl _) _,
   (((h2.set (t':={ clearBrand t with parts:=[] }) rfl).set (t':={ clearBrand t with parts:=[],methods:=[] }) rfl).set (t':={ clearBrand t with parts:=[],methods:=[],overs:=[] }) rfl).set (t':=clearObj t) rfl,
   grownBy_set (grownBy_set (grownBy_set (grownBy_set h3 _ _) _ _) _ _) _ _⟩)
 have hp0:=dh (fun W (hB:Below bx w0 W)=>(⟨Graph.mono (w':=W) (by rw [h0] at hB; exact hB) hg,Parts.mono (w':=W) (by rw [h0] at hB; exact hB) hp,Meths.mono (w':=W) (by rw [h0] at hB; exact hB) hm,Overs.mono (w':=W) (by rw [h0] at hB; exact hB) ho⟩:Graph W (.slice a n c) g/\Parts W (.slice pa pl pc) t.parts/\Meths W (.slice ma ml mc) t.methods/\Overs W (.slice oa ol oc) t.overs));have hbx:=cell_new1 w (.slice a n c) 118;clear hB hx hg hp hm ho;have hsp:objectsB g t=(brandedB g t&&differentB (t.parts.map (·.name)) 8&&objectB g (clearBrand t)):=rfl;have Hsp:=dh hsp; clear hsp;have h0':=Nat.le_of_eq h0;clear h0
 go_enter Tryz.func149,Tryz.ntmps149
 go_upto_region 1 with (fail);go_cut [5] (fun v wx=>v=.bool (objectsB g t)/\Hid (Below bx w0 wx/\Box wx bx (clearBrand t) (.slice pa pl pc) (.slice ma ml mc) (.slice oa ol oc)/\w.grownBy wx (some bx)))
 case first =>
  refine wp_region_M 99 bx (by kernel_rfl) ?_;change wpM _ _ _ _ _ _ _ _ _ (World.drew _);refine wpM_take (i:=0) (v:=?_) rfl (by kernel_rfl) (by kernel_rfl) (by kernel_rfl) (fun _ _ _ h=>h) (Or.inl ⟨by kernel_rfl,fun w9 hE=>?_⟩) ?_;rotate_left
  ·have hbxE:=hE.cell hbx (by first | (simp; done) | (simp; omega)); clear hE; first | (go_simp; done) | (go_simp; with_reducible rfl)
  simp only [Act.put,nm];refine wpM_take (i:=1) (v:=?_) rfl (by kernel_rfl) (by kernel_rfl) (by kernel_rfl) (fun _ _ _ h=>h) (Or.inl ⟨by kernel_rfl,fun w9 hE=>?_⟩) ?_;rotate_left
  ·clear hE; first | (go_simp; done) | (go_simp; with_reducible rfl)
  simp only [Act.put,nm];refine wpM_only (i:=2) rfl (by kernel_rfl) (by kernel_rfl) (fun K hK=>?_);go_simp;refine hbr.out.mono ?_;rintro e w1 ⟨rfl,hB1,hx1,hG1⟩;have hG0:w.grownBy w1 (some bx):=grownBy_trans (grownBy_ext (grownBy_refl w _) ((Ext.alloc _ _).trans (Ext.drew _))) hG1;have hbx1:w1.cell? ⟨w.heap.size,0,none⟩=some (.slice a n c):=hG1.cell hbx (by simp; omega);have c7:=hx1.cell (j:=7) rfl;have hl1:=hx1.lt;obtain ⟨hg1,hp1,hm1,ho1⟩:=hp0.out w1 hB1;have HB1:=dh hB1; clear hB1;have Hx1:=dh hx1; clear hx1;have HG0:=dh hG0; clear hG0;refine hK _ _ hG1 ?_; clear hK K hG1;cases hb:brandedB g t
  ·
   refine Zg 3 ?_;refine Zs 4 ?_;refine Zs 5 ?_;refine Zs 6 ?_;refine Zs 7 ?_;refine Zs 8 ?_;refine Zs 9 ?_;refine Zg 10 ?_;refine Zg 11 ?_;refine Zs 12 ?_;refine Zs 13 ?_;refine Zs 14 ?_;refine Zs 15 ?_;refine Zs 16 ?_;refine Zg 17 ?_;refine Zg 18 ?_;refine Zd ?_;go_wp2_with fail;go_meet;exact ⟨by rw [Hsp.out,hb]; rfl,HB1.out,Hx1.out,HG0.out⟩
  ·
   refine Zg 3 ?_;refine Zg 4 ?_;refine Zg 5 ?_;refine Zg 6 ?_;refine Zc 7 c7 ?_;refine Zo 8 fun K hK=>?_;go_simp;refine (names173 175 enters175 _ _ _ _ _ hp1 name175).mono ?_;rintro e w2 ⟨va,vc,rfl,hs1,hE⟩;have hbx2:=hE.cell hbx1;have hg2:=Graph.mono hE hg1;have hm2:=Meths.mono hE hm1;have ho2:=Overs.mono hE ho1;have HB2:=dh (HB1.out.trans (Below.mono hE (Nat.le_of_lt hl1)));have Hx2:=dh (Hx1.out.ext hE);have HG2:=dh (grownBy_ext HG0.out hE);have hl2:=Hx2.out.lt;refine hK _ _ (hE) ?_; clear hK K;clear hE;refine Zo 9 fun K hK=>?_;go_simp;refine (different172 _ _ _ _ 8 _ hs1).mono ?_;rintro e w3 ⟨rfl,hE⟩;have hbx3:=hE.cell hbx2;have hg3:=Graph.mono hE hg2;have hm3:=Meths.mono hE hm2;have ho3:=Overs.mono hE ho2;have HB3:=dh (HB2.out.trans (Below.mono hE (Nat.le_of_lt hl2)));have Hx3:=dh (Hx2.out.ext hE);have HG3:=dh (grownBy_ext HG2.out hE);have hl3:=Hx3.out.lt;refine hK _ _ (hE) ?_; clear hK K;clear hE;cases hd:differentB (t.parts.map (·.name)) 8
   ·
    refine Zg 10 ?_;refine Zg 11 ?_;refine Zs 12 ?_;refine Zs 13 ?_;refine Zs 14 ?_;refine Zs 15 ?_;refine Zs 16 ?_;refine Zg 17 ?_;refine Zg 18 ?_;refine Zd ?_;go_wp2_with fail;go_meet;exact ⟨by rw [Hsp.out,hb,hd]; rfl,HB3.out,Hx3.out,HG3.out⟩
   ·
    have d0:=Hx3.out.cell (j:=0) rfl;have d1:=Hx3.out.cell (j:=1) rfl;have d2:=Hx3.out.cell (j:=2) rfl;have d3:=Hx3.out.cell (j:=3) rfl;have d4:=Hx3.out.cell (j:=4) rfl;have d5:=Hx3.out.cell (j:=5) rfl;have d6:=Hx3.out.cell (j:=6) rfl;have d7:=Hx3.out.cell (j:=7) rfl;have d8:=Hx3.out.cell (j:=8) rfl;have d9:=Hx3.out.cell (j:=9) rfl;refine Zg 10 ?_;refine Zg 11 ?_;refine Zc 12 hbx3 ?_;refine Zg 13 ?_;refine Zg 14 ?_;refine Zf 15 rfl (fun w9 hE=>by have d0E:=hE.cell d0; have d1E:=hE.cell d1; have d2E:=hE.cell d2; have d3E:=hE.cell d3; have d4E:=hE.cell d4; have d5E:=hE.cell d5; have d6E:=hE.cell d6; have d7E:=hE.cell d7; have d8E:=hE.cell d8; have d9E:=hE.cell d9; clear hE; first | (go_simp; done) | (go_simp; with_reducible rfl)) ?_;refine Zo 16 fun K hK=>?_;go_simp;refine (object176 a n c g (clearBrand t) pa pl pc ma ml mc oa ol oc _ hg3 hm3 ho3).mono ?_;rintro e w4 ⟨rfl,hE⟩;have HB4:=dh (HB3.out.trans (Below.mono hE (Nat.le_of_lt hl3)));have Hx4:=dh (Hx3.out.ext hE);have HG4:=dh (grownBy_ext HG3.out hE);refine hK _ _ (hE) ?_; clear hK K;clear hE;refine Zg 17 ?_;refine Zg 18 ?_;refine Zd ?_;go_wp2_with fail;go_meet;exact ⟨by rw [Hsp.out,hb,hd]; rfl,HB4.out,Hx4.out,HG4.out⟩
 case rest =>
  obtain ⟨rfl,hH⟩:=hcut;obtain ⟨hB,hx,hG⟩:=hH.out;clear hH;have c6:=hx.cell (j:=6) rfl;have c7:=hx.cell (j:=7) rfl;have c8:=hx.cell (j:=8) rfl;have c9:=hx.cell (j:=9) rfl;have f6:=hx.free 6;have f7:=hx.free 7;have f8:=hx.free 8;have f9:=hx.free 9;have HB:=dh hB; clear hB;have Hx:=dh hx; clear hx;have HG:=dh hG; clear hG;go_wp2_with fail;go_ret;exact hend.out _ rfl _ HB.out Hx.out HG.out
end
section
open Go.RowKit Go.Proofs
def ruleFn:Nat->Option FuncId
 | 3=>some 146
 | 9=>some 147
 | 10=>some 148
 | 11=>some 147
 | 12=>some 149
 | 13=>some 150
 | 1=>some 145
 | 2=>some 145
 | 4=>some 145
 | 5=>some 145
 | 6=>some 145
 | 7=>some 145
 | 8=>some 145
 | _=>none
def ruleCell (k:Nat):Value:=match ruleFn k with | some F=>.func (.func F) #[] #[] | none=>.nilFunc
def ruleTable:Array Value:=((List.range 14).map ruleCell).toArray
theorem rules108 (w:World):Calls Tryz.prog 108 #[] w fun e w'=>e=.returned (.agg ruleTable)/\Ext w w':=by
 go_enter Tryz.func108,Tryz.ntmps108
 go_wp2;refine bodyPost_ret (v:=.agg ruleTable) ?_ rfl ⟨rfl,by (repeat (first | exact Ext.refl _ | (refine Ext.trans ?_ (Hid.out (by assumption))) | (refine Ext.trans ?_ (Ext.alloc _ _)) | (refine Ext.trans ?_ (Ext.drew _)) | (refine below_drewN ?_ _)))⟩;simp [results,Tryz.results108,go_sem,ruleTable,ruleCell,ruleFn,List.range_succ]
theorem plainOf109 (t:Ty) (pv mv ov:Value) (w:World):Calls Tryz.prog 109 #[.agg (tyCells t pv mv ov).toArray] w fun e w' =>
  e=.returned (.agg #[.int .u8 t.kind,.int .i64 t.low,.int .i64 t.high,.bool t.branded,.string t.brand,.string t.opq,.int .i64 0])/\Ext w w':=by
 unfold tyCells
 go_enter Tryz.func109,Tryz.ntmps109
 go_wp2;refine bodyPost_ret (v:=.agg #[.int .u8 t.kind,.int .i64 t.low,.int .i64 t.high,.bool t.branded,.string t.brand,.string t.opq,.int .i64 0]) (by simp [results,Tryz.results109,go_sem]) rfl ⟨rfl,by (repeat (first | exact Ext.refl _ | (refine Ext.trans ?_ (Hid.out (by assumption))) | (refine Ext.trans ?_ (Ext.alloc _ _)) | (refine Ext.trans ?_ (Ext.drew _)) | (refine below_drewN ?_ _)))⟩
end
section
open Go.RowKit Go.Proofs
theorem size0 (s:BA):(s.size==0)=decide (ByteArray.toList s=[]):=by
 rw [<- empty_iff];cases h:ByteArray.toList s <;> simp
def restB (t:Ty) (pl ml ol:Nat):Bool:=t.low==0&&t.high==0&&!t.branded&&t.brand.size==0&&t.opq.size==0&&t.super==0&&pl+ml+ol==0
theorem ruleTable_eq:ruleTable=#[.nilFunc,.func (.func 145) #[] #[],.func (.func 145) #[] #[],.func (.func 146) #[] #[],.func (.func 145) #[] #[],.func (.func 145) #[] #[],.func (.func 145) #[] #[],.func (.func 145) #[] #[],.func (.func 145) #[] #[],.func (.func 147) #[] #[],.func (.func 148) #[] #[],.func (.func 147) #[] #[],.func (.func 149) #[] #[],.func (.func 150) #[] #[]]:=by simp [ruleTable,ruleCell,ruleFn,List.range_succ]
theorem right_rule (F:FuncId) (k:Nat) (hk:k<14) (hF:ruleTable[k]? = some (.func (.func F) #[] #[])) (hn:Enters Tryz.prog F) (a:Option Addr) (n c:Nat) (x t':Ty) (hkx:x.kind=k) (hkt:t'.kind=k) (r:Bool)
  (pa:Option Addr) (pl pc:Nat) (ma:Option Addr) (ml mc:Nat) (oa:Option Addr) (ol oc:Nat) (pa':Option Addr) (pl' pc':Nat) (ma':Option Addr) (ml' mc':Nat) (oa':Option Addr) (ol' oc':Nat) (w:World)
  (hl:(pl':Int)+ml'+ol'<=9223372036854775807)
  (hcall:∀ W,Below (w.alloc (.cells #[.slice a n c] 118)).heap.size (w.alloc (.cells #[.slice a n c] 118)) W->Box W (w.heap.size+1) x (.slice pa pl pc) (.slice ma ml mc) (.slice oa ol oc) ->
   Calls Tryz.prog F #[.agg #[.slice a n c],.pointer (some ⟨w.heap.size+1,0,none⟩)] W (RulePost (w.alloc (.cells #[.slice a n c] 118)) W (w.heap.size+1) r t' (.slice pa' pl' pc') (.slice ma' ml' mc') (.slice oa' ol' oc'))) :
  Calls Tryz.prog 74 #[.agg #[.slice a n c],.agg (tyCells x (.slice pa pl pc) (.slice ma ml mc) (.slice oa ol oc)).toArray] w fun e w'=>e=.returned (.bool (r&&restB t' pl' ml' ol'))/\Ext w w':=by
 have hx0:Box ((w.alloc (.cells #[.slice a n c] 118)).alloc (.cells (tyCells x (.slice pa pl pc) (.slice ma ml mc) (.slice oa ol oc)).toArray 50)) (w.heap.size+1) x (.slice pa pl pc) (.slice ma ml mc) (.slice oa ol oc):=by
  have:=Box.new (w.alloc (.cells #[.slice a n c] 118)) x (.slice pa pl pc) (.slice ma ml mc) (.slice oa ol oc)
  simpa using this
 have hbx:=(Ext.alloc (w.alloc (.cells #[.slice a n c] 118)) (.cells (tyCells x (.slice pa pl pc) (.slice ma ml mc) (.slice oa ol oc)).toArray 50)).cell (cell_new1 w (.slice a n c) 118);have HE0:=dh (Ext.alloc (w.alloc (.cells #[.slice a n c] 118)) (.cells (tyCells x (.slice pa pl pc) (.slice ma ml mc) (.slice oa ol oc)).toArray 50));have Hkx:=dh hkx; clear hkx;have Hkt:=dh hkt; clear hkt;have Hcall:=dh hcall; clear hcall;have Hx0:=dh hx0; clear hx0;have HF:=dh hF; clear hF;unfold tyCells at *
 go_enter Tryz.func74,Tryz.ntmps74
 go_upto_region 1 with (fail);obtain ⟨W,hW⟩:∃ W:World,W=((w.alloc (.cells #[.slice a n c] 118)).alloc (.cells #[.int .u8 x.kind,.int .i64 x.low,.int .i64 x.high,.bool x.branded,.string x.brand,.string x.opq,.int .i64 x.super,.slice pa pl pc,.slice ma ml mc,.slice oa ol oc] 50)):=⟨_,rfl⟩;rw [<- hW] at hbx HE0 Hx0 ⊢;have hsz:W.heap.size=w.heap.size+2:=by rw [hW]; simp
 clear hW;go_wp2_with fail;refine (rules108 _).mono ?_;rintro e w1 ⟨rfl,hE⟩;rw [ruleTable_eq];have hbx1:=hE.cell hbx;have Hx1:=dh (Hx0.out.ext hE);have HE1:=dh (HE0.out.trans hE); clear hE;go_upto_region 2 with (fail);obtain ⟨V,hV⟩:∃ V:World,V=w1.alloc (.cells #[.nilFunc,.func (.func 145) #[] #[],.func (.func 145) #[] #[],.func (.func 146) #[] #[],.func (.func 145) #[] #[],.func (.func 145) #[] #[],.func (.func 145) #[] #[],.func (.func 145) #[] #[],.func (.func 145) #[] #[],.func (.func 147) #[] #[],.func (.func 148) #[] #[],.func (.func 147) #[] #[],.func (.func 149) #[] #[],.func (.func 150) #[] #[]] 156):=⟨_,rfl⟩;rw [<- hV];have hEV:Ext w1 V:=by rw [hV]; exact Ext.alloc _ _
 have htab:V.cell? ⟨w1.heap.size,k,none⟩=some (.func (.func F) #[] #[]):=by rw [hV,<- ruleTable_eq]; exact cell_new w1 ruleTable 156 k _ HF.out
 clear hV HF;have hbx2:=hEV.cell hbx1;have Hx2:=dh (Hx1.out.ext hEV);have c0:=Hx2.out.cell (j:=0) rfl;rw [Hkx.out] at c0;have HE2:=dh (HE1.out.trans hEV); clear hEV;have hwsz:w.heap.size<V.heap.size:=cell_lt hbx2;have hwr:IntKind.i64.wrap (k:Int)=k:=by rw [IntKind.wrap_i64]; omega
 have hk':(k:Int)<14:=by omega
 have hge:decide (14<=(k:Int))=false:=decide_eq_false (by omega);refine wp_region_M 99 (w.heap.size+1) (by kernel_rfl) ?_;change wpM _ _ _ _ _ _ _ _ _ (World.drew _);refine wpM_keep (i:=0) rfl (by kernel_rfl) (by kernel_rfl) (fun K hK=>?_);go_simp;refine hK _ _ (grownBy_refl _ _) ?_; clear hK K;try (simp only [Act.put,nm])
 refine wpM_keep (i:=1) rfl (by kernel_rfl) (by kernel_rfl) (fun K hK=>?_);go_simp;refine hK _ _ (grownBy_refl _ _) ?_; clear hK K;try (simp only [Act.put,nm])
 refine wpM_keep (i:=2) rfl (by kernel_rfl) (by kernel_rfl) (fun K hK=>?_);go_simp;refine hK _ _ (grownBy_refl _ _) ?_; clear hK K;try (simp only [Act.put,nm])
 refine wpM_keep (i:=3) rfl (by kernel_rfl) (by kernel_rfl) (fun K hK=>?_);go_simp;refine hK _ _ (grownBy_refl _ _) ?_; clear hK K;try (simp only [Act.put,nm])
 refine wpM_keep (i:=4) rfl (by kernel_rfl) (by kernel_rfl) (fun K hK=>?_);go_simp;refine hK _ _ (grownBy_refl _ _) ?_; clear hK K;try (simp only [Act.put,nm])
 refine wpM_keep (i:=5) rfl (by kernel_rfl) (by kernel_rfl) (fun K hK=>?_);go_simp;refine hK _ _ (grownBy_refl _ _) ?_; clear hK K;try (simp only [Act.put,nm])
 refine wpM_keep (i:=6) rfl (by kernel_rfl) (by kernel_rfl) (fun K hK=>?_);go_simp;refine hK _ _ (grownBy_refl _ _) ?_; clear hK K;try (simp only [Act.put,nm])
 refine wpM_keep (i:=7) rfl (by kernel_rfl) (by kernel_rfl) (fun K hK=>?_);go_simp;refine hK _ _ (grownBy_refl _ _) ?_; clear hK K;try (simp only [Act.put,nm])
 refine wpM_keep (i:=8) rfl (by kernel_rfl) (by kernel_rfl) (fun K hK=>?_);go_simp;refine hK _ _ (grownBy_refl _ _) ?_; clear hK K;try (simp only [Act.put,nm])
 refine wpM_keep (i:=9) rfl (by kernel_rfl) (by kernel_rfl) (fun K hK=>?_);go_simp;refine hK _ _ (grownBy_refl _ _) ?_; clear hK K;try (simp only [Act.put,nm])
 refine wpM_keep (i:=10) rfl (by kernel_rfl) (by kernel_rfl) (fun K hK=>?_);go_simp;refine hK _ _ (grownBy_refl _ _) ?_; clear hK K;try (simp only [Act.put,nm])
 refine wpM_keep (i:=11) rfl (by kernel_rfl) (by kernel_rfl) (fun K hK=>?_);go_simp;refine hK _ _ (grownBy_refl _ _) ?_; clear hK K;try (simp only [Act.put,nm])
 refine wpM_take (i:=16) (v:=?_) rfl (by kernel_rfl) (by kernel_rfl) (by kernel_rfl) (fun _ _ _ h=>h) (Or.inl ⟨by kernel_rfl,fun w9 hE=>?_⟩) ?_;rotate_left
 ·have hbx2E:=hE.cell hbx2 (by first | (simp; done) | (simp; omega)); clear hE; first | (go_simp; done) | (go_simp; with_reducible rfl)
 simp only [Act.put,nm];refine wpM_keep (i:=12) rfl (by kernel_rfl) (by kernel_rfl) (fun K hK=>?_);go_simp;refine hK _ _ (grownBy_refl _ _) ?_; clear hK K;try (simp only [Act.put,nm])
 refine wpM_keep (i:=13) rfl (by kernel_rfl) (by kernel_rfl) (fun K hK=>?_);go_simp;refine hK _ _ (grownBy_refl _ _) ?_; clear hK K;try (simp only [Act.put,nm])
 refine wpM_keep (i:=14) rfl (by kernel_rfl) (by kernel_rfl) (fun K hK=>?_);go_simp;refine hK _ _ (grownBy_refl _ _) ?_; clear hK K;try (simp only [Act.put,nm])
 refine wpM_keep (i:=15) rfl (by kernel_rfl) (by kernel_rfl) (fun K hK=>?_);go_simp;refine hK _ _ (grownBy_refl _ _) ?_; clear hK K;try (simp only [Act.put,nm])
 have hEn:∀ (args:Array Value) (w:World),(callFunc F args).run Tryz.prog w=.ok (.enter F args) w:=hn;refine wpM_only (i:=17) rfl (by kernel_rfl) (by kernel_rfl) (fun K hK=>?_);go_simp;refine (Hcall.out _ (HE2.out.trans (Ext.drew _)) Hx2.out).mono ?_;rintro e w2 ⟨rfl,hB3,hx3,hG3⟩;have HE3:=dh (show Ext w w2 from (Ext.alloc w (.cells #[.slice a n c] 118)).trans (by show Below _ _ _; simpa using hB3));have d0:=hx3.cell (j:=0) rfl;have d1:=hx3.cell (j:=1) rfl;have d2:=hx3.cell (j:=2) rfl;have d3:=hx3.cell (j:=3) rfl;have d4:=hx3.cell (j:=4) rfl;have d5:=hx3.cell (j:=5) rfl;have d6:=hx3.cell (j:=6) rfl;have d7:=hx3.cell (j:=7) rfl;have d8:=hx3.cell (j:=8) rfl;have d9:=hx3.cell (j:=9) rfl;rw [Hkt.out] at d0;have hl3:=hx3.lt;clear hB3 hx3 hbx hbx1 hbx2 htab c0;have HW:=dh hwsz; clear hwsz hsz;refine hK _ _ hG3 ?_; clear hK K hG3;cases r
 ·
  refine Zg 18 ?_;refine Zg 19 ?_;refine Zd ?_;go_wp2_with fail;go_ret;exact ⟨rfl,HE3.out⟩
 ·
  refine Zg 18 ?_;refine Zg 19 ?_;refine Zd ?_;go_wp2_with fail;refine (plainOf109 { t' with kind:=k } (.slice pa' pl' pc') (.slice ma' ml' mc') (.slice oa' ol' oc') _).mono ?_;rintro e w4 ⟨rfl,hE⟩;have e0:=hE.cell d0;have e6:=hE.cell d6;have e7:=hE.cell d7;have e8:=hE.cell d8;have e9:=hE.cell d9;clear d0 d1 d2 d3 d4 d5 d6 d7 d8 d9;have hl4:w.heap.size+1<w4.heap.size:=cell_lt e0;have HE4:=dh (HE3.out.trans hE); clear hE HE3;go_upto_region 6 with (fail);clear Hcall hwr hge hEn hk' HW hl3;go_wp2_with fail
  all_goals go_ret
  all_goals refine ⟨ret_bool ?_,HE4.out.trans (Ext.alloc _ _)⟩
  all_goals clear e0 e6 e7 e8 e9 hl4 HE4 HE2 Hx2 HE1 Hx1 HE0 Hx0 hk hn Hkx Hkt
  all_goals simp only [Bool.true_and,restB,size0]
  all_goals simp_all
  apply Bool.eq_iff_iff.2;simp;omega
theorem right_zero (a:Option Addr) (n c:Nat) (x:Ty) (hkx:x.kind=0) (pa:Option Addr) (pl pc:Nat) (ma:Option Addr) (ml mc:Nat) (oa:Option Addr) (ol oc:Nat) (w:World) :
  Calls Tryz.prog 74 #[.agg #[.slice a n c],.agg (tyCells x (.slice pa pl pc) (.slice ma ml mc) (.slice oa ol oc)).toArray] w fun e w'=>e=.returned (.bool false)/\Ext w w':=by
 unfold tyCells;rw [hkx];clear hkx;have hq:∀ w,(binOp .eql 155 .nilFunc .nilFunc).run Tryz.prog w=.ok (.bool true) w:=fun _=>by kernel_rfl
 have hw0:IntKind.i64.wrap 0=0:=by kernel_rfl
 have hd0:decide (14<=(0:Int))=false:=rfl
 go_enter Tryz.func74,Tryz.ntmps74
 go_wp2_with fail;refine (rules108 _).mono ?_;rintro e w1 ⟨rfl,hE⟩;rw [ruleTable_eq];have c0:=hE.cell (cell_new (w.alloc (.cells #[.slice a n c] 118)) #[.int .u8 0,.int .i64 x.low,.int .i64 x.high,.bool x.branded,.string x.brand,.string x.opq,.int .i64 x.super,.slice pa pl pc,.slice ma ml mc,.slice oa ol oc] 50 0 _ rfl);have c1:=hE.cell ((Ext.alloc (w.alloc (.cells #[.slice a n c] 118)) (.cells #[.int .u8 0,.int .i64 x.low,.int .i64 x.high,.bool x.branded,.string x.brand,.string x.opq,.int .i64 x.super,.slice pa pl pc,.slice ma ml mc,.slice oa ol oc] 50)).cell (cell_new1 w (.slice a n c) 118));rw [show (w.alloc (.cells #[.slice a n c] 118)).heap.size=w.heap.size+1 by simp] at c0;have hlt:w.heap.size+1<w1.heap.size:=cell_lt c0;have HE:=dh (((Ext.alloc _ _).trans (Ext.alloc _ _)).trans hE); clear hE;go_upto_region 2 with (fail);obtain ⟨V,hV⟩:∃ V:World,V=w1.alloc (.cells #[.nilFunc,.func (.func 145) #[] #[],.func (.func 145) #[] #[],.func (.func 146) #[] #[],.func (.func 145) #[] #[],.func (.func 145) #[] #[],.func (.func 145) #[] #[],.func (.func 145) #[] #[],.func (.func 145) #[] #[],.func (.func 147) #[] #[],.func (.func 148) #[] #[],.func (.func 147) #[] #[],.func (.func 149) #[] #[],.func (.func 150) #[] #[]] 156):=⟨_,rfl⟩;rw [<- hV];have hEV:Ext w1 V:=by rw [hV]; exact Ext.alloc _ _
 have htab:V.cell? ⟨w1.heap.size,0,none⟩=some .nilFunc:=by rw [hV]; exact cell_new w1 _ 156 0 _ rfl
 clear hV;have d0:=hEV.cell c0;have HE2:=dh (HE.out.trans hEV); clear hEV HE c0;refine Zr 99 ?_;change wpE _ _ _ _ _ _ _ _ (World.drew _);refine Zg 0 ?_;refine Zc 1 d0 ?_;refine Zg 2 ?_;refine Zg 3 ?_;refine Zg 4 ?_;refine Zg 5 ?_;refine Zc 6 d0 ?_;refine Zg 7 ?_;refine Zc 8 htab ?_;refine Zg 9 ?_;refine Zg 10 ?_;refine Zg 11 ?_;refine Zs 12 ?_;refine Zs 13 ?_;refine Zs 14 ?_;refine Zs 15 ?_;refine Zs 16 ?_;refine Zs 17 ?_;refine Zs 18 ?_;refine Zg 19 ?_;refine Zd ?_;go_wp2_with fail;go_ret;exact ⟨rfl,HE2.out.trans (Ext.drew _)⟩
theorem right_big (a:Option Addr) (n c:Nat) (x:Ty) (h14:14<=x.kind) (h255:x.kind<=255) (pa:Option Addr) (pl pc:Nat) (ma:Option Addr) (ml mc:Nat) (oa:Option Addr) (ol oc:Nat) (w:World) :
  Calls Tryz.prog 74 #[.agg #[.slice a n c],.agg (tyCells x (.slice pa pl pc) (.slice ma ml mc) (.slice oa ol oc)).toArray] w fun e w'=>e=.returned (.bool false)/\Ext w w':=by
 unfold tyCells;have hwr:IntKind.i64.wrap x.kind=x.kind:=by rw [IntKind.wrap_i64]; omega
 go_enter Tryz.func74,Tryz.ntmps74
 go_wp2_with fail;refine (rules108 _).mono ?_;rintro e w1 ⟨rfl,hE⟩;rw [ruleTable_eq];have c0:=hE.cell (cell_new (w.alloc (.cells #[.slice a n c] 118)) #[.int .u8 x.kind,.int .i64 x.low,.int .i64 x.high,.bool x.branded,.string x.brand,.string x.opq,.int .i64 x.super,.slice pa pl pc,.slice ma ml mc,.slice oa ol oc] 50 0 _ rfl);rw [show (w.alloc (.cells #[.slice a n c] 118)).heap.size=w.heap.size+1 by simp] at c0;have hlt:w.heap.size+1<w1.heap.size:=cell_lt c0;have HE:=dh (((Ext.alloc _ _).trans (Ext.alloc _ _)).trans hE); clear hE;go_upto_region 2 with (fail);obtain ⟨V,hV⟩:∃ V:World,V=w1.alloc (.cells #[.nilFunc,.func (.func 145) #[] #[],.func (.func 145) #[] #[],.func (.func 146) #[] #[],.func (.func 145) #[] #[],.func (.func 145) #[] #[],.func (.func 145) #[] #[],.func (.func 145) #[] #[],.func (.func 145) #[] #[],.func (.func 147) #[] #[],.func (.func 148) #[] #[],.func (.func 147) #[] #[],.func (.func 149) #[] #[],.func (.func 150) #[] #[]] 156):=⟨_,rfl⟩;rw [<- hV];have hEV:Ext w1 V:=by rw [hV]; exact Ext.alloc _ _
 clear hV;have d0:=hEV.cell c0;have HE2:=dh (HE.out.trans hEV); clear hEV HE c0;refine Zr 99 ?_;change wpE _ _ _ _ _ _ _ _ (World.drew _);refine Zg 0 ?_;refine Zc 1 d0 ?_;refine Zg 2 ?_;refine Zg 3 ?_;refine Zg 4 ?_;refine Zs 5 ?_;refine Zs 6 ?_;refine Zs 7 ?_;refine Zs 8 ?_;refine Zs 9 ?_;refine Zg 10 ?_;refine Zg 11 ?_;refine Zs 12 ?_;refine Zs 13 ?_;refine Zs 14 ?_;refine Zs 15 ?_;refine Zs 16 ?_;refine Zs 17 ?_;refine Zs 18 ?_;refine Zg 19 ?_;refine Zd ?_;go_wp2_with fail;go_ret;exact ⟨rfl,HE2.out.trans (Ext.drew _)⟩
theorem enters145:Enters Tryz.prog 145:=enters_of Tryz.func145 (by kernel_rfl) rfl
theorem enters146:Enters Tryz.prog 146:=enters_of Tryz.func146 (by kernel_rfl) rfl
theorem enters147:Enters Tryz.prog 147:=enters_of Tryz.func147 (by kernel_rfl) rfl
theorem enters148:Enters Tryz.prog 148:=enters_of Tryz.func148 (by kernel_rfl) rfl
theorem enters149:Enters Tryz.prog 149:=enters_of Tryz.func149 (by kernel_rfl) rfl
theorem enters150:Enters Tryz.prog 150:=enters_of Tryz.func150 (by kernel_rfl) rfl
theorem right74 (a:Option Addr) (n c:Nat) (g:List Ty) (x:Ty) (pa:Option Addr) (pl pc:Nat) (ma:Option Addr) (ml mc:Nat) (oa:Option Addr) (ol oc:Nat) (w:World)
  (hg:Graph w (.slice a n c) g) (hp:Parts w (.slice pa pl pc) x.parts) (hm:Meths w (.slice ma ml mc) x.methods) (ho:Overs w (.slice oa ol oc) x.overs) (ok:TyOk x) :
  Calls Tryz.prog 74 #[.agg #[.slice a n c],.agg (tyCells x (.slice pa pl pc) (.slice ma ml mc) (.slice oa ol oc)).toArray] w fun e w'=>e=.returned (.bool (rightB g x))/\Ext w w':=by
 have hpb:=(SlW.bound hp).2;have hmb:=(SlW.bound hm).2;have hob:=(SlW.bound ho).2;have hpl:=SlW.len hp;have hml:=SlW.len hm;have hol:=SlW.len ho;have hk0:=ok.k0;have hk1:=ok.k1;have hs:w.heap.size+1=(w.alloc (.cells #[.slice a n c] 118)).heap.size:=by simp
 have hg0:=Graph.mono (Ext.alloc w (.cells #[.slice a n c] 118)) hg;have hp0:=Parts.mono (Ext.alloc w (.cells #[.slice a n c] 118)) hp;have hm0:=Meths.mono (Ext.alloc w (.cells #[.slice a n c] 118)) hm;have ho0:=Overs.mono (Ext.alloc w (.cells #[.slice a n c] 118)) ho;have hopq:=ok.o;rcases (show x.kind=0\/x.kind=1\/x.kind=2\/x.kind=3\/x.kind=4\/x.kind=5\/x.kind=6\/x.kind=7\/x.kind=8\/x.kind=9\/x.kind=10\/x.kind=11\/x.kind=12\/x.kind=13\/14<=x.kind by omega) with hk | hk | hk | hk | hk | hk | hk | hk | hk | hk | hk | hk | hk | hk | hk
 ·refine (right_zero a n c x hk pa pl pc ma ml mc oa ol oc w).mono ?_;rintro e w' ⟨rfl,hE⟩;exact ⟨ret_bool (by simp [rightB,hk]),hE⟩
 ·-- 1
  have:=right_rule 145 1 (by decide) (by rw [ruleTable_eq]; rfl) enters145 a n c x x hk hk true pa pl pc ma ml mc oa ol oc pa pl pc ma ml mc oa ol oc w (by omega) (fun W hB hx=>nothing145 (w.alloc (.cells #[.slice a n c] 118)) W a n c x _ _ _ _ (by rw [hs]; exact hB) hx);refine this.mono ?_;rintro e w' ⟨rfl,hE⟩;refine ⟨ret_bool ?_,hE⟩;simp only [rightB,restB,hk];simp only [clearNums,clearParts,clearObj,clearOpq,clearBrand,noNums,noBrand,noOpq,noSuper,noParts,noRows,hpl,hml,hol];apply Bool.eq_iff_iff.2;simp;try (simp only [show (⟨#[]⟩:ByteArray)=ByteArray.empty from rfl])
  try grind
 ·-- 2
  have:=right_rule 145 2 (by decide) (by rw [ruleTable_eq]; rfl) enters145 a n c x x hk hk true pa pl pc ma ml mc oa ol oc pa pl pc ma ml mc oa ol oc w (by omega) (fun W hB hx=>nothing145 (w.alloc (.cells #[.slice a n c] 118)) W a n c x _ _ _ _ (by rw [hs]; exact hB) hx);refine this.mono ?_;rintro e w' ⟨rfl,hE⟩;refine ⟨ret_bool ?_,hE⟩;simp only [rightB,restB,hk];simp only [clearNums,clearParts,clearObj,clearOpq,clearBrand,noNums,noBrand,noOpq,noSuper,noParts,noRows,hpl,hml,hol];apply Bool.eq_iff_iff.2;simp;try (simp only [show (⟨#[]⟩:ByteArray)=ByteArray.empty from rfl])
  try grind
 ·-- 3
  have:=right_rule 146 3 (by decide) (by rw [ruleTable_eq]; rfl) enters146 a n c x (clearNums x) hk hk (rangedB x) pa pl pc ma ml mc oa ol oc pa pl pc ma ml mc oa ol oc w (by omega) (fun W hB hx=>ranged146 (w.alloc (.cells #[.slice a n c] 118)) W a n c x _ _ _ _ (by rw [hs]; exact hB) hx);refine this.mono ?_;rintro e w' ⟨rfl,hE⟩;refine ⟨ret_bool ?_,hE⟩;simp only [rightB,restB,hk];simp only [clearNums,clearParts,clearObj,clearOpq,clearBrand,noNums,noBrand,noOpq,noSuper,noParts,noRows,hpl,hml,hol];apply Bool.eq_iff_iff.2;simp;try (simp only [show (⟨#[]⟩:ByteArray)=ByteArray.empty from rfl])
  try grind
 ·-- 4
  have:=right_rule 145 4 (by decide) (by rw [ruleTable_eq]; rfl) enters145 a n c x x hk hk true pa pl pc ma ml mc oa ol oc pa pl pc ma ml mc oa ol oc w (by omega) (fun W hB hx=>nothing145 (w.alloc (.cells #[.slice a n c] 118)) W a n c x _ _ _ _ (by rw [hs]; exact hB) hx);refine this.mono ?_;rintro e w' ⟨rfl,hE⟩;refine ⟨ret_bool ?_,hE⟩;simp only [rightB,restB,hk];simp only [clearNums,clearParts,clearObj,clearOpq,clearBrand,noNums,noBrand,noOpq,noSuper,noParts,noRows,hpl,hml,hol];apply Bool.eq_iff_iff.2;simp;try (simp only [show (⟨#[]⟩:ByteArray)=ByteArray.empty from rfl])
  try grind
 ·-- 5
  have:=right_rule 145 5 (by decide) (by rw [ruleTable_eq]; rfl) enters145 a n c x x hk hk true pa pl pc ma ml mc oa ol oc pa pl pc ma ml mc oa ol oc w (by omega) (fun W hB hx=>nothing145 (w.alloc (.cells #[.slice a n c] 118)) W a n c x _ _ _ _ (by rw [hs]; exact hB) hx);refine this.mono ?_;rintro e w' ⟨rfl,hE⟩;refine ⟨ret_bool ?_,hE⟩;simp only [rightB,restB,hk];simp only [clearNums,clearParts,clearObj,clearOpq,clearBrand,noNums,noBrand,noOpq,noSuper,noParts,noRows,hpl,hml,hol];apply Bool.eq_iff_iff.2;simp;try (simp only [show (⟨#[]⟩:ByteArray)=ByteArray.empty from rfl])
  try grind
 ·-- 6
  have:=right_rule 145 6 (by decide) (by rw [ruleTable_eq]; rfl) enters145 a n c x x hk hk true pa pl pc ma ml mc oa ol oc pa pl pc ma ml mc oa ol oc w (by omega) (fun W hB hx=>nothing145 (w.alloc (.cells #[.slice a n c] 118)) W a n c x _ _ _ _ (by rw [hs]; exact hB) hx);refine this.mono ?_;rintro e w' ⟨rfl,hE⟩;refine ⟨ret_bool ?_,hE⟩;simp only [rightB,restB,hk];simp only [clearNums,clearParts,clearObj,clearOpq,clearBrand,noNums,noBrand,noOpq,noSuper,noParts,noRows,hpl,hml,hol];apply Bool.eq_iff_iff.2;simp;try (simp only [show (⟨#[]⟩:ByteArray)=ByteArray.empty from rfl])
  try grind
 ·-- 7
  have:=right_rule 145 7 (by decide) (by rw [ruleTable_eq]; rfl) enters145 a n c x x hk hk true pa pl pc ma ml mc oa ol oc pa pl pc ma ml mc oa ol oc w (by omega) (fun W hB hx=>nothing145 (w.alloc (.cells #[.slice a n c] 118)) W a n c x _ _ _ _ (by rw [hs]; exact hB) hx);refine this.mono ?_;rintro e w' ⟨rfl,hE⟩;refine ⟨ret_bool ?_,hE⟩;simp only [rightB,restB,hk];simp only [clearNums,clearParts,clearObj,clearOpq,clearBrand,noNums,noBrand,noOpq,noSuper,noParts,noRows,hpl,hml,hol];apply Bool.eq_iff_iff.2;simp;try (simp only [show (⟨#[]⟩:ByteArray)=ByteArray.empty from rfl])
  try grind
 ·-- 8
  have:=right_rule 145 8 (by decide) (by rw [ruleTable_eq]; rfl) enters145 a n c x x hk hk true pa pl pc ma ml mc oa ol oc pa pl pc ma ml mc oa ol oc w (by omega) (fun W hB hx=>nothing145 (w.alloc (.cells #[.slice a n c] 118)) W a n c x _ _ _ _ (by rw [hs]; exact hB) hx);refine this.mono ?_;rintro e w' ⟨rfl,hE⟩;refine ⟨ret_bool ?_,hE⟩;simp only [rightB,restB,hk];simp only [clearNums,clearParts,clearObj,clearOpq,clearBrand,noNums,noBrand,noOpq,noSuper,noParts,noRows,hpl,hml,hol];apply Bool.eq_iff_iff.2;simp;try (simp only [show (⟨#[]⟩:ByteArray)=ByteArray.empty from rfl])
  try grind
 ·-- 9
  have:=right_rule 147 9 (by decide) (by rw [ruleTable_eq]; rfl) enters147 a n c x (clearParts x) hk hk (heldB g x) pa pl pc ma ml mc oa ol oc none 0 0 ma ml mc oa ol oc w (by omega) (fun W hB hx=>held147 (w.alloc (.cells #[.slice a n c] 118)) W a n c g x _ pa pl pc _ _ hs (by rw [hs]; exact hB) hg0 hp0 hx);refine this.mono ?_;rintro e w' ⟨rfl,hE⟩;refine ⟨ret_bool ?_,hE⟩;simp only [rightB,restB,hk];simp only [clearNums,clearParts,clearObj,clearOpq,clearBrand,noNums,noBrand,noOpq,noSuper,noParts,noRows,hpl,hml,hol];apply Bool.eq_iff_iff.2;simp;try (simp only [show (⟨#[]⟩:ByteArray)=ByteArray.empty from rfl])
  try grind
 ·-- 10
  have:=right_rule 148 10 (by decide) (by rw [ruleTable_eq]; rfl) enters148 a n c x (clearParts x) hk hk (recordedB g x) pa pl pc ma ml mc oa ol oc none 0 0 ma ml mc oa ol oc w (by omega) (fun W hB hx=>recorded148 (w.alloc (.cells #[.slice a n c] 118)) W a n c g x _ pa pl pc _ _ hs (by rw [hs]; exact hB) hg0 hp0 hx);refine this.mono ?_;rintro e w' ⟨rfl,hE⟩;refine ⟨ret_bool ?_,hE⟩;simp only [rightB,restB,hk];simp only [clearNums,clearParts,clearObj,clearOpq,clearBrand,noNums,noBrand,noOpq,noSuper,noParts,noRows,hpl,hml,hol];apply Bool.eq_iff_iff.2;simp;try (simp only [show (⟨#[]⟩:ByteArray)=ByteArray.empty from rfl])
  try grind
 ·-- 11
  have:=right_rule 147 11 (by decide) (by rw [ruleTable_eq]; rfl) enters147 a n c x (clearParts x) hk hk (heldB g x) pa pl pc ma ml mc oa ol oc none 0 0 ma ml mc oa ol oc w (by omega) (fun W hB hx=>held147 (w.alloc (.cells #[.slice a n c] 118)) W a n c g x _ pa pl pc _ _ hs (by rw [hs]; exact hB) hg0 hp0 hx);refine this.mono ?_;rintro e w' ⟨rfl,hE⟩;refine ⟨ret_bool ?_,hE⟩;simp only [rightB,restB,hk];simp only [clearNums,clearParts,clearObj,clearOpq,clearBrand,noNums,noBrand,noOpq,noSuper,noParts,noRows,hpl,hml,hol];apply Bool.eq_iff_iff.2;simp;try (simp only [show (⟨#[]⟩:ByteArray)=ByteArray.empty from rfl])
  try grind
 ·-- 12
  have:=right_rule 149 12 (by decide) (by rw [ruleTable_eq]; rfl) enters149 a n c x (clearObj x) hk hk (objectsB g x) pa pl pc ma ml mc oa ol oc none 0 0 none 0 0 none 0 0 w (by omega) (fun W hB hx=>objects149 (w.alloc (.cells #[.slice a n c] 118)) W a n c g x _ pa pl pc ma ml mc oa ol oc hs (by rw [hs]; exact hB) hg0 hp0 hm0 ho0 hx);refine this.mono ?_;rintro e w' ⟨rfl,hE⟩;refine ⟨ret_bool ?_,hE⟩;simp only [rightB,restB,hk];simp only [clearNums,clearParts,clearObj,clearOpq,clearBrand,noNums,noBrand,noOpq,noSuper,noParts,noRows,hpl,hml,hol];apply Bool.eq_iff_iff.2;simp;try (simp only [show (⟨#[]⟩:ByteArray)=ByteArray.empty from rfl])
  try grind
 ·-- 13
  have:=right_rule 150 13 (by decide) (by rw [ruleTable_eq]; rfl) enters150 a n c x (clearOpq x) hk hk (opqB g x) pa pl pc ma ml mc oa ol oc pa pl pc ma ml mc oa ol oc w (by omega) (fun W hB hx=>opq150 (w.alloc (.cells #[.slice a n c] 118)) W a n c g x _ _ _ _ hs (by rw [hs]; exact hB) hg0 hopq hx);refine this.mono ?_;rintro e w' ⟨rfl,hE⟩;refine ⟨ret_bool ?_,hE⟩;simp only [rightB,restB,hk];simp only [clearNums,clearParts,clearObj,clearOpq,clearBrand,noNums,noBrand,noOpq,noSuper,noParts,noRows,hpl,hml,hol];apply Bool.eq_iff_iff.2;simp;try (simp only [show (⟨#[]⟩:ByteArray)=ByteArray.empty from rfl])
  try grind
 ·refine (right_big a n c x hk ok.k1 pa pl pc ma ml mc oa ol oc w).mono ?_;rintro e w' ⟨rfl,hE⟩;refine ⟨ret_bool ?_,hE⟩;unfold rightB;rw [if_neg (by omega),if_neg (by omega),if_neg (by omega),if_neg (by omega),if_neg (by omega),if_neg (by omega)]
end
end Go.Proofs.YtjffkeoajkhbmaaGreat
